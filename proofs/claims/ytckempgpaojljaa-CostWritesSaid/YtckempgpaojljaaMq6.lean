/- The row of the law CostWrites, out of its walk. -/
import Derived.Test.YtckempgpaojljaaMq4
import Derived.Test.YtckempgpaojljaaMq5
import Derived.Test.YtckempgpaojljaaMq1
import Derived.Test.YtckempgpaojljaaMq3
import Derived.Test.YtckempgpaojljaaRows
import Derived.WalkKit
import Derived.ProofKit
import Derived.OpenShut
import Derived.ShutString
import Derived.ChangeOld
import Derived.Below
import Derived.SizedLaws
section
/- The walk of the law CostWrites. -/
namespace Go.Proofs.Ytckempgpaojljaa.P
set_option linter.unusedVariables false
set_option linter.unusedSimpArgs false
open Go.RowKit Go.Proofs.YtckempgpaojljaaW.PrintWords Go.Proofs.YtckempgpaojljaaW.PrintLast Go.Proofs.YtckempgpaojljaaW.PrintMore
attribute [local go_sem] Oper.semAt_some
theorem made_nums (n : Nat) : madeCells #[.int .i64 0] n = (nums .i64 (List.replicate n 0)).toArray := by
  apply Array.ext'
  apply List.ext_getElem?
  intro i
  rcases Nat.lt_or_ge i n with h | h
  · simp [madeCells, nums, h, Nat.mod_one]
  · simp [madeCells, nums, Nat.not_lt.2 h]
theorem make3 (k : IntKind) (n : Nat) (hn : n ≤ 512) (w : World) : (Instr.makeSlice 26 (.int k n) (.int k n)).run Try.prog w = .ok (.slice (some ⟨w.heap.size, 0, none⟩) n n) (w.alloc (.cells (nums .i64 (List.replicate n 0)).toArray 3)) := by
  obtain ⟨i, hi, hz⟩ := Option.map_eq_some_iff.1 info3
  simp only [Prod.mk.injEq] at hz
  have := run_make (P := Try.prog) w 26 3 i (.int .i64 0) Try.underlying26 hi hz.1 k k (n : Int) (n : Int) (by omega) (by omega) (by rw [hz.2.2]; omega) (by omega)
  rw [hz.2.1, Nat.mul_one] at this
  rw [← made_nums]
  exact this
theorem chosen15F (A : Option Addr) (c : Nat) (l : List S43) (w : World) (hr : Kd.C k43 w A l.length l) (hc : l.length ≤ c) (hl : l.length ≤ 1000000) {G : List (List Int)} (hG : chosenL l = (G, [], 0, 0)) : Calls Try.prog 15 #[.slice A l.length c] w fun e w' =>
    ∃ (A1 : Option Addr) (c1 : Nat) (A2 : Option Addr) (c2 : Nat), e = .returned (.agg #[.slice A1 G.length c1, .slice A2 0 c2, .int .i64 0, .int .i64 0]) ∧ G.length ≤ c1 ∧ Kd.F (Kd.slice 3 (Kd.int .i64)) w' (fun k => w.heap.size ≤ k) A1 G.length G ∧ Below w.heap.size w w' := by
  obtain ⟨K, hK⟩ := chosen_ev l hl
  have h := (hK K (Nat.le_refl _)).trans (by rw [hG])
  refine (chapmanlaw36_chosen.calls K A c l G [] 0 0 w hr hc h).mono ?_
  rintro e w' ⟨v0, v1, rfl, h0, h1, hb⟩
  obtain ⟨A1, c1, rfl, l1, C1⟩ := Kd.R_reads h0
  obtain ⟨A2, c2, rfl, l2, C2⟩ := Kd.R_reads h1
  exact ⟨A1, c1, A2, c2, rfl, l1, Kd.F_mono (Kd.R_F (Kd.R_bound h0)) (fun _ h => h.2.1), hb⟩
theorem after19R (A : Option Addr) (c : Nat) (l : List S43) (B : Option Addr) (d : Nat) (G : List (List Int)) (w : World) (hr : Kd.C k43 w A l.length l) (hc : l.length ≤ c) (hg : Kd.C (Kd.slice 3 (Kd.int .i64)) w B G.length G) (hd : G.length ≤ d) (hl : l.length ≤ 1000000) {newl : List S43} (hN : afterR l G = ([], newl, 0, 0)) : Calls Try.prog 19 #[.slice A l.length c, .slice B G.length d] w fun e w' =>
    ∃ (A1 : Option Addr) (c1 : Nat) (A2 : Option Addr) (c2 : Nat), e = .returned (.agg #[.slice A1 0 c1, .slice A2 newl.length c2, .int .i64 0, .int .i64 0]) ∧ Kd.R k43 43 w' w.heap.size (fun k => w.heap.size ≤ k ∧ k < w'.heap.size) (.slice A2 newl.length c2) newl ∧ Below w.heap.size w w' := by
  obtain ⟨K, hK⟩ := after_ev l G hl
  have h := (hK K (Nat.le_refl _)).trans (by rw [hN])
  refine (chapmanlaw36_after.calls K A c l B d G [] newl 0 0 w hr hc hg hd h).mono ?_
  rintro e w' ⟨v0, v1, rfl, h0, h1, hb⟩
  obtain ⟨A1, c1, rfl, l1, C1⟩ := Kd.R_reads h0
  obtain ⟨A2, c2, rfl, l2, C2⟩ := Kd.R_reads h1
  exact ⟨A1, c1, A2, c2, rfl, Kd.R_mono (Kd.R_bound h1) (fun _ h => ⟨h.2.1, h.2.2.1⟩), hb⟩
structure WrJ (w1 W0 : World) (bW bO : Nat) (wl ol : List Int) (W : World) : Prop where
  below : Below w1.heap.size w1 W
  size : W.heap.size = W0.heap.size
  keep : ∀ k, k ≠ bW → k ≠ bO → W.heap[k]? = W0.heap[k]?
  bw : W.heap[bW]? = some (.cells (nums .i64 wl).toArray 3 (0, 0))
  bo : W.heap[bO]? = some (.cells (nums .i64 ol).toArray 3 (0, 0))
theorem WrJ.drew {w1 W0 : World} {bW bO : Nat} {wl ol : List Int} {W : World} (h : WrJ w1 W0 bW bO wl ol W) : WrJ w1 W0 bW bO wl ol W.drew := ⟨h.below.drew, h.size, h.keep, h.bw, h.bo⟩
theorem nums_set (wl : List Int) (c : Nat) (v : Int) : (nums .i64 wl).toArray.setIfInBounds c (.int .i64 v) = (nums .i64 (wl.set c v)).toArray := by
  apply Array.ext'
  simp [nums, List.map_set]
theorem set_size (W : World) (p : Addr) (v : Value) : (W.setCell p v).heap.size = W.heap.size := by simp [World.setCell]
theorem WrJ.setW {w1 W0 : World} {bW bO : Nat} {wl ol : List Int} {W : World} (h : WrJ w1 W0 bW bO wl ol W) (hb : w1.heap.size ≤ bW) (hne : bW ≠ bO) (c : Nat) (v : Int) : WrJ w1 W0 bW bO (wl.set c v) ol (W.setCell ⟨bW, c, none⟩ (.int .i64 v)) :=
  ⟨h.below.setCell (p := ⟨bW, c, none⟩) hb _, by rw [set_size]; exact h.size, fun k h1 h2 => (Below.heap_setCell _ _ _ _ h1).trans (h.keep k h1 h2), by rw [heap_set_same _ _ _ _ _ _ h.bw, nums_set], (Below.heap_setCell _ _ _ _ hne.symm).trans h.bo⟩
theorem WrJ.setO {w1 W0 : World} {bW bO : Nat} {wl ol : List Int} {W : World} (h : WrJ w1 W0 bW bO wl ol W) (hb : w1.heap.size ≤ bO) (hne : bW ≠ bO) (c : Nat) (v : Int) : WrJ w1 W0 bW bO wl (ol.set c v) (W.setCell ⟨bO, c, none⟩ (.int .i64 v)) :=
  ⟨h.below.setCell (p := ⟨bO, c, none⟩) hb _, by rw [set_size]; exact h.size, fun k h1 h2 => (Below.heap_setCell _ _ _ _ h2).trans (h.keep k h1 h2), (Below.heap_setCell _ _ _ _ hne).trans h.bw, by rw [heap_set_same _ _ _ _ _ _ h.bo, nums_set]⟩
theorem nums_cell {W : World} {b : Nat} {wl : List Int} (h : W.heap[b]? = some (.cells (nums .i64 wl).toArray 3 (0, 0))) {c : Nat} (hc : c < wl.length) : W.cell? ⟨b, c, none⟩ = some (.int .i64 (rd wl (c : Int))) := by
  refine hq_cell h c _ ?_
  simp [nums, rd, List.getD_eq_getElem?_getD, hc]
def writes5.T27 : Bool × List (List Nat × List Nat) := (true, [([], []), ([0], [0]), ([1], [1]), ([2], [2]), ([2], [2]), ([4, 2], [2, 4]), ([3, 5, 2], [2, 3, 5]), ([2, 6], [2, 6]), ([7, 2], [7]), ([8], [8]), ([8], [8]), ([9, 10, 8], [8, 9, 10]), ([11, 8], [8, 11]), ([12, 8], [8, 12]), ([8, 13], [8, 13]), ([14, 8], [14]), ([15], [15]), ([15], [15]), ([16, 17, 15], [15, 16, 17]), ([18, 15], [15, 18]), ([19, 15], [15, 19]), ([15, 20], [15, 20]), ([21, 15], [21]), ([22], [22]), ([22], [22]), ([23, 24, 22], [22, 23, 24]), ([25, 22], [22, 25]), ([22], [22]), ([22], [22]), ([27, 28, 22], [22, 27, 28]), ([29, 22], [22, 29]), ([30, 22], [22, 30]), ([26, 31, 22], [22, 26, 31]), ([22], [22]), ([33, 22], [22, 33]), ([32, 34, 22], [22, 32, 34]), ([22, 35], [22, 35])])
def writes5.B27 : List Nat := [0, 1, 3, 7, 7, 23, 63, 127, 255, 511, 511, 2047, 4095, 8191, 16383, 32767, 65535, 65535, 262143, 524287, 1048575, 2097151, 4194303, 8388607, 8388607, 33554431, 67108863, 8388607, 8388607, 411041791, 947912703, 2021654527, 4294967295, 8388607, 8598323199, 34359738367, 68719476735]
theorem writes5.tab27 : rtab .any (opsOf Try.f5 27) = writes5.T27 := by kernel_rfl
theorem writes5.bits27 : waitsOk writes5.T27.2 writes5.B27 = true := by kernel_rfl
def writes5.T31 : Bool × List (List Nat × List Nat) := (true, [([], []), ([], []), ([], []), ([1, 2], [1, 2]), ([3], [3]), ([], []), ([], []), ([5, 6], [5, 6]), ([7], [7]), ([8], [8]), ([4, 9], [4, 9]), ([0, 10], [0, 10])])
def writes5.B31 : List Nat := [0, 0, 0, 6, 14, 0, 0, 96, 224, 480, 1022, 2047]
theorem writes5.tab31 : rtab .any (opsOf Try.f5 31) = writes5.T31 := by kernel_rfl
theorem writes5.bits31 : waitsOk writes5.T31.2 writes5.B31 = true := by kernel_rfl
def writes5.T38 : Bool × List (List Nat × List Nat) := (true, [([], []), ([], []), ([0, 1], [0, 1]), ([2], [2]), ([3], [3]), ([4], [4]), ([5], [5]), ([5], [5]), ([7, 5], [5, 7]), ([5], [5]), ([5], [5]), ([9, 10, 5], [5, 9, 10]), ([11, 5], [5, 11]), ([12, 5], [5, 12]), ([8, 13, 5], [5, 8, 13]), ([14, 5], [5, 14]), ([15, 5], [5, 15]), ([16, 5], [5, 16]), ([6, 17, 5], [5, 6, 17]), ([5, 18], [5, 18])])
def writes5.B38 : List Nat := [0, 0, 3, 7, 15, 31, 63, 63, 191, 63, 63, 1599, 3647, 7743, 16319, 32703, 65471, 131007, 262143, 524287]
theorem writes5.tab38 : rtab .any (opsOf Try.f5 38) = writes5.T38 := by kernel_rfl
theorem writes5.bits38 : waitsOk writes5.T38.2 writes5.B38 = true := by kernel_rfl
def writes5.T47 : Bool × List (List Nat × List Nat) := (true, [([], []), ([], []), ([0, 1], [0, 1]), ([2], [2]), ([], []), ([4], [4]), ([5], [5]), ([3, 6], [3, 6])])
def writes5.B47 : List Nat := [0, 0, 3, 7, 0, 16, 48, 127]
theorem writes5.tab47 : rtab .any (opsOf Try.f5 47) = writes5.T47 := by kernel_rfl
theorem writes5.bits47 : waitsOk writes5.T47.2 writes5.B47 = true := by kernel_rfl
set_option maxHeartbeats 16000000 in
set_option maxRecDepth 100000 in
theorem writes5 (nn : Int) (A : Option Addr) (c : Nat) (y : List Int) (w : World) (hn : 0 ≤ nn ∧ nn ≤ 255) (hr : Kd.C (Kd.int .u8) w A y.length y) (hc : y.length ≤ c) (hy : ∀ b ∈ y, 0 ≤ b ∧ b ≤ 255) :
    Calls Try.prog 5 #[.int .u8 nn, .slice A y.length c] w fun e w' => e = .returned (.bool true) ∧ Below w.heap.size w w' := by
  have HR := Aside0.mk hr
  have HY := Aside0.mk hy
  have hyl := hr.2.1
  obtain ⟨m, hm⟩ : ∃ m : Nat, nn % 70 = (m : Int) := ⟨(nn % 70).toNat, by omega⟩
  have hm69 : m ≤ 69 := by omega
  obtain ⟨nn0, nn1⟩ := hn
  clear hr hy
  go_enter Try.func5, Try.ntmps5
  go_wp2_with (fail)
  refine (examples9 w).mono ?_
  rintro e w1 ⟨rfl, hb⟩
  have HB1 := Aside0.mk hb
  have HY1 := Aside0.mk (Kd.C_below HR.out hb)
  clear hb HR
  have hmk : (Instr.makeSlice 26 (.int .u8 (nn % 70)) (.int .u8 (nn % 70))).run Try.prog ((w1.alloc (.cells #[] 43)).alloc (.cells #[] 3)) = .ok (.slice (some ⟨((w1.alloc (.cells #[] 43)).alloc (.cells #[] 3)).heap.size, 0, none⟩) m m) (((w1.alloc (.cells #[] 43)).alloc (.cells #[] 3)).alloc (.cells (nums .i64 (List.replicate m 0)).toArray 3)) := by
    rw [hm]
    exact make3 .u8 m (by omega) _
  clear hm
  have h3 := two_new w1 (.cells #[] 43 (0, 0)) (.cells #[] 3 (0, 0))
  have hb3 : Below w1.heap.size w1 (((w1.alloc (.cells #[] 43)).alloc (.cells #[] 3)).alloc (.cells (nums .i64 (List.replicate m 0)).toArray 3)) := below_alloc (below_alloc (below_alloc (Below.refl _ _) _) _) _
  have hnw := heap_alloc_new ((w1.alloc (.cells #[] 43)).alloc (.cells #[] 3)) (.cells (nums .i64 (List.replicate m 0)).toArray 3 (0, 0))
  rw [h3.2.2] at hnw
  have hRl : Kd.R k43 43 (((w1.alloc (.cells #[] 43)).alloc (.cells #[] 3)).alloc (.cells (nums .i64 (List.replicate m 0)).toArray 3)) w1.heap.size (fun k => k ≠ w1.heap.size + 2) (.slice (some ⟨w1.heap.size, 0, none⟩) 0 0) [] := Kd.R_alloc (Kd.R_alloc (R_zero k43 43 w1 w1.heap.size _ (Nat.le_refl _) (by omega)) _) _
  have hRf : Kd.R (Kd.int .i64) 3 (((w1.alloc (.cells #[] 43)).alloc (.cells #[] 3)).alloc (.cells (nums .i64 (List.replicate m 0)).toArray 3)) w1.heap.size (fun k => k ≠ w1.heap.size + 2) (.slice (some ⟨w1.heap.size + 1, 0, none⟩) 0 0) [] := by
    have := Kd.R_alloc (R_zero (Kd.int .i64) 3 (w1.alloc (.cells #[] 43)) w1.heap.size (fun k => k ≠ w1.heap.size + 2) (by rw [alloc_size]; omega) (by rw [alloc_size]; omega)) (.cells (nums .i64 (List.replicate m 0)).toArray 3)
    rwa [alloc_size] at this
  have HB3 := Aside0.mk hb3
  have HNW := Aside0.mk hnw
  have HRL := Aside0.mk hRl
  have HRF := Aside0.mk hRf
  clear h3 hb3 hnw hRl hRf
  go_wp2
  obtain ⟨bW, hbW⟩ : ∃ bW, bW = w1.heap.size + 1 + 1 := ⟨_, rfl⟩
  rw [show w1.heap.size + 2 = bW by omega] at HRL HRF HNW
  rw [← hbW]
  have hbWlo : w1.heap.size ≤ bW := by omega
  clear hmk hbW
  go_loopw [9, 6, 7] (fun v9 v6 v7 w' => ∃ (i : Nat) (l : List S43) (U : Nat → Int) (wl : List Int), i ≤ m ∧ v9 = .int .i64 i ∧ Aside0 (WGood l i) ∧ Aside0 (UOK l i U) ∧ Aside0 (WU m U wl) ∧ Aside0 (Kd.R k43 43 w' w1.heap.size (fun k => k ≠ bW) v6 l) ∧ Aside0 (Kd.R (Kd.int .i64) 3 w' w1.heap.size (fun k => k ≠ bW) v7 (firstL l)) ∧ Aside0 (w'.heap[bW]? = some (.cells (nums .i64 wl).toArray 3 (0, 0))) ∧ Aside0 (Below w1.heap.size w1 w')) (fun v9 _ _ _ => m - (intOf v9).toNat)
  case atStart => exact ⟨0, [], fun _ => 0, List.replicate m 0, by omega, rfl, ⟨WGood.nil⟩, ⟨UOK.nil⟩, ⟨WU.zero m⟩, HRL, HRF, HNW, HB3⟩
  case round =>
    clear HRL HRF HNW HB3
    obtain ⟨i, l, U, wl, hi, rfl, HG, HU, HW, HRL, HRF, HBW, HB⟩ := hrel
    by_cases hlt : i < m
    · have hlen := HG.out.len
      have HWR0 : Aside0 (wr = wr) := ⟨rfl⟩
      go_upto_if 38 with (fail)
      go_cut [10] from 29 to 44 (fun v10 wc => ∃ b : Int, v10 = .int .i64 b ∧ 0 ≤ b ∧ b ≤ 255 ∧ Aside0 (wc = wr))
      case first =>
        by_cases hyi : i < y.length
        · obtain ⟨adY, rfl, hcy⟩ := Kd.at_int (Kd.C_below HY1.out HB.out) (i : Int) (by omega) (by omega)
          simp only [Int.toNat_natCast] at hcy
          have hyb := HY.out (rd y i) (by simp [rd, List.getD_eq_getElem?_getD, hyi])
          generalize rd y i = b at hcy hyb
          obtain ⟨b0, b1⟩ := hyb
          go_wp2
          go_meet
          case rel => exact ⟨b, rfl, b0, b1, ⟨rfl⟩⟩
        · go_wp2
          go_meet
          case rel => exact ⟨7, rfl, by omega, by omega, ⟨rfl⟩⟩
      case rest =>
        obtain ⟨b, rfl, b0, b1, HWC⟩ := hcut
        have hwc := HWC.out
        subst hwc
        clear HWC HWR0
        have hRne := Kd.R_ne HRL.out HBW.out (by decide)
        have HRNE := Aside0.mk hRne
        clear hRne
        go_wp2_with (first
          | (at_builtin; refine Kd.R_append k43 (w0 := w1) w1.heap.size rfl (.tmp 44) (.tmp 47) 23 43 (.agg #[.int .i64 0, .int .i64 0]) 16 rfl Try.underlying23 info43 rfl (by decide) (by decide) _ l ⟨1, b⟩ [.int .i64 1, .int .i64 b] (fun k => k ≠ bW) (fun _ => False) rfl rfl ?aP (fun _ hk => hk.elim) ?aF HRL.out HB.out HB.out.size ?aL ?_; (case aP => exact ⟨[.int .i64 1], [.int .i64 b], rfl, rfl, rfl⟩); (case aF => exact fun k hk => by have := hq_lt HBW.out; omega); (case aL => omega); intro v1 w5 ho hb hg5 hat; have HF5 := Aside0.mk (Kd.R_grown2 HRF.out rfl hg5 (fun k hk => by have := Kd.R_typed HRL.out k hk; obtain ⟨cells, hcs⟩ := this; exact Kd.R_ne HRF.out hcs (by decide))); have HO5 := Aside0.mk ho; have HB5 := Aside0.mk hb; have HBW5 := Aside0.mk ((hg5.block _ (hq_lt HBW.out) HRNE.out).trans HBW.out); clear ho hb hg5 hat)
          | (at_builtin; refine Kd.R_append (Kd.int .i64) (w0 := w1) w1.heap.size rfl (.tmp 49) (.tmp 51) 26 3 (.int .i64 0) 8 rfl Try.underlying26 info3 rfl (by decide) (by decide) _ (firstL l) (i : Int) [.int .i64 (i : Int)] (fun k => k ≠ bW) (fun _ => False) rfl rfl ?aP (fun _ hk => hk.elim) ?aF HF5.out HB5.out HB5.out.size ?aL ?_; (case aP => exact rfl); (case aF => exact fun k hk => by have := hq_lt HBW5.out; omega); (case aL => rw [firstL_len]; omega); intro v2 w6 ho hb hg5 hat; have HO6 := Aside0.mk ho; have HL6 := Aside0.mk (Kd.R_grown2 HO5.out rfl hg5 (fun k hk => by have := Kd.R_typed HF5.out k hk; obtain ⟨cells, hcs⟩ := this; exact Kd.R_ne HO5.out hcs (by decide))); have HB6 := Aside0.mk hb; have HBW6 := Aside0.mk ((hg5.block _ (hq_lt HBW5.out) (fun e => HF5.out.1 _ e.symm rfl)).trans HBW5.out); obtain ⟨Al, cl, e, hcl, _⟩ := Kd.R_reads HL6.out; subst e; obtain ⟨Af, cf, e, hcf, _⟩ := Kd.R_reads HO6.out; subst e; clear ho hb hg5 hat)
          | fail)
        obtain ⟨L, hL⟩ : ∃ L, L = l ++ [(⟨1, b⟩ : S43)] := ⟨_, rfl⟩
        have hLl : L.length = l.length + 1 := by rw [hL, List.length_append]; rfl
        have hfl : (firstL l).length + 1 = L.length := by rw [firstL_len, hLl]
        have HG2 : Aside0 (WGood L (i + 1)) := ⟨by rw [hL]; exact HG.out.add b0 b1⟩
        have HU2 : Aside0 (UOK L (i + 1) U) := ⟨by rw [hL]; exact HU.out.add HG.out b⟩
        have HUB : Aside0 (∀ d, U d ≤ 100 * (i : Int)) := ⟨fun d => (HU.out.bd d).2⟩
        have hfe : firstL l ++ [(i : Int)] = firstL L := by rw [hL, firstL_add HG.out]
        rw [← hL] at HL6 hcl
        rw [hfe] at HO6 hcf
        rw [firstL_len] at hcf HO6
        rw [hfl, ← hLl]
        have hLi : L.length ≤ 70 := by omega
        obtain ⟨G, newl, hst⟩ := step_ok HG2.out (by omega)
        have HST := Aside0.mk hst
        have hLb : L.length ≤ i + 1 := by omega
        have HLL := Aside0.mk hLl
        clear hst hfe hfl hL hlen hLl HO5 HF5 HB5 HBW5 HRL HRF HBW HB HRNE HG HU
        refine (chosen15F Al cl L w6 (Kd.R_reads' HL6.out).2.2 hcl (by omega) HST.out.cho).mono ?_
        rintro e w7 ⟨AG, cG, BG, dG, rfl, hcG, hFG, hb⟩
        have HB67 := Aside0.mk hb
        have HFG7 := Aside0.mk hFG
        clear hb hFG
        go_wp2_with (fail)
        have HB68 := Aside0.mk (below_alloc HB67.out (.cells #[.slice AG G.length cG, .slice BG 0 dG, .int .i64 0, .int .i64 0] 36))
        have hn11 := heap_alloc_new w7 (.cells #[.slice AG G.length cG, .slice BG 0 dG, .int .i64 0, .int .i64 0] 36 (0, 0))
        have hF8 := Kd.F_alloc (Kd.F_bound HFG7.out) (.cells #[.slice AG G.length cG, .slice BG 0 dG, .int .i64 0, .int .i64 0] 36)
        have hC8 := Kd.C_below (Kd.R_reads' HL6.out).2.2 HB68.out
        refine (after19R Al cl L AG cG G _ hC8 hcl (Kd.F_now hF8) hcG (by omega) HST.out.aft).mono ?_
        rintro e w9 ⟨A5, c5, AN, cN, rfl, hRN, hb⟩
        rw [alloc_size] at hRN
        have HN11 := Aside0.mk ((hb.block _ (hq_lt hn11)).trans hn11)
        have HFG9 := Aside0.mk (Kd.F_below hF8 hb)
        have HRN9 := Aside0.mk hRN
        have HB69 := Aside0.mk (HB68.out.trans (hb.mono HB68.out.size))
        have h79 : w7.heap.size + 1 ≤ w9.heap.size := by have := hb.size; rw [alloc_size] at this; exact this
        have h67 : w6.heap.size ≤ w7.heap.size := HB67.out.size
        have hW6 := hq_lt HBW6.out
        clear hn11 hF8 hC8 hb hRN HFG7 HB67 HB68
        have hbO : (w9.alloc (.cells #[.slice A5 0 c5, .slice AN newl.length cN, .int .i64 0, .int .i64 0] 36)).heap.size = w9.heap.size + 1 := alloc_size _ _
        have hmk := make3 .i64 L.length (by omega) (w9.alloc (.cells #[.slice A5 0 c5, .slice AN newl.length cN, .int .i64 0, .int .i64 0] 36))
        obtain ⟨W0, hW0⟩ : ∃ W0, W0 = (w9.alloc (.cells #[.slice A5 0 c5, .slice AN newl.length cN, .int .i64 0, .int .i64 0] 36)).alloc (.cells (nums .i64 (List.replicate L.length 0)).toArray 3) := ⟨_, rfl⟩
        have HB90 : Aside0 (Below w9.heap.size w9 W0) := ⟨by rw [hW0]; exact below_alloc (below_alloc (Below.refl _ _) _) _⟩
        have H12 : Aside0 (W0.heap[w9.heap.size]? = some (.cells #[.slice A5 0 c5, .slice AN newl.length cN, .int .i64 0, .int .i64 0] 36 (0, 0))) := ⟨by rw [hW0]; exact (heap_alloc_old _ _ (by rw [hbO]; omega)).trans (heap_alloc_new _ _)⟩
        have HBO : Aside0 (W0.heap[w9.heap.size + 1]? = some (.cells (nums .i64 (List.replicate L.length 0)).toArray 3 (0, 0))) := ⟨by rw [hW0, ← hbO]; exact heap_alloc_new _ _⟩
        have H11 := Aside0.mk ((HB90.out.block _ (hq_lt HN11.out)).trans HN11.out)
        have HB60 := Aside0.mk (HB69.out.trans (HB90.out.mono HB69.out.size))
        have HBW0 := Aside0.mk ((HB60.out.block _ (hq_lt HBW6.out)).trans HBW6.out)
        have HFL0 : Aside0 (Kd.F k43 W0 (fun k => k ≠ bW ∧ k ≠ w9.heap.size + 1) Al L.length L) := ⟨Kd.F_mono (Kd.F_below (Kd.F_bound (Kd.R_F HL6.out)) HB60.out) (fun k hk => ⟨hk.1, by omega⟩)⟩
        have HFF0 : Aside0 (Kd.F (Kd.int .i64) W0 (fun k => k ≠ bW ∧ k ≠ w9.heap.size + 1) Af L.length (firstL L)) := ⟨Kd.F_mono (Kd.F_below (Kd.F_bound (Kd.R_F HO6.out)) HB60.out) (fun k hk => ⟨hk.1, by omega⟩)⟩
        have HFG0 : Aside0 (Kd.F (Kd.slice 3 (Kd.int .i64)) W0 (fun k => k ≠ bW ∧ k ≠ w9.heap.size + 1) AG G.length G) := ⟨Kd.F_mono (Kd.F_below HFG9.out HB90.out) (fun k hk => ⟨by omega, by omega⟩)⟩
        have HRN0 : Aside0 (Kd.R k43 43 W0 (w7.heap.size + 1) (fun k => k ≠ bW ∧ k ≠ w9.heap.size + 1) (.slice AN newl.length cN) newl) := ⟨Kd.R_mono (Kd.R_below HRN9.out HB90.out) (fun k hk => ⟨by omega, by omega⟩)⟩
        have HBL := Aside0.mk (HB6.out.trans (HB60.out.mono HB6.out.size))
        have h0s : w9.heap.size + 2 = W0.heap.size := by rw [hW0, alloc_size, hbO]
        have hE1 := hq_cell ((heap_alloc_old w9 (.cells #[.slice A5 0 c5, .slice AN newl.length cN, .int .i64 0, .int .i64 0] 36) (hq_lt HN11.out)).trans HN11.out) 3 _ rfl
        have hE2 := hq_cell (heap_alloc_new w9 (.cells #[.slice A5 0 c5, .slice AN newl.length cN, .int .i64 0, .int .i64 0] 36 (0, 0))) 3 _ rfl
        simp only [List.getElem_toArray, List.getElem_cons_zero, List.getElem_cons_succ] at hE1 hE2
        have HW0S := Aside0.mk hW0
        have H0S := Aside0.mk h0s
        have HBOE := Aside0.mk hbO
        clear HL6 HO6 HFG9 HN11 HRN9 HB69 HBW6 HB6 hW0 h0s hbO
        go_wp2
        clear hmk hE1 hE2
        rw [← HW0S.out]
        clear HW0S
        have hlo : w1.heap.size ≤ w9.heap.size + 1 ∧ w7.heap.size ≠ bW ∧ w7.heap.size ≠ w9.heap.size + 1 ∧ w9.heap.size ≠ bW ∧ w9.heap.size ≠ w9.heap.size + 1 ∧ bW ≠ w9.heap.size + 1 ∧ w1.heap.size ≤ w7.heap.size + 1 ∧ w9.heap.size + 1 < W0.heap.size ∧ bW < W0.heap.size := by
          have := H0S.out
          omega
        obtain ⟨bO, hbO⟩ : ∃ k, k = w9.heap.size + 1 := ⟨_, rfl⟩
        rw [← hbO] at HBO HFL0 HFF0 HFG0 HRN0 hlo ⊢
        obtain ⟨b11, hb11⟩ : ∃ k, k = w7.heap.size := ⟨_, rfl⟩
        obtain ⟨b12, hb12⟩ : ∃ k, k = w9.heap.size := ⟨_, rfl⟩
        rw [← hb11] at H11 HRN0 hlo ⊢
        rw [← hb12] at H12 hlo ⊢
        clear hb11 hb12 hbO H0S HBOE HB90 HB60 h79 h67 hW6
        obtain ⟨lo1, lo2, lo3, lo4, lo5, lo6, lo7, lo8, lo9⟩ := hlo
        go_loopw [14] (fun v14 w' => ∃ (k : Nat) (wl ol : List Int), k ≤ G.length ∧ v14 = .int .i64 k ∧ Aside0 (WU m (fun d => U d + hits L (doneP G k 0) d) wl) ∧ Aside0 (OwnP L.length G (doneP G k 0) ol) ∧ Aside0 (WrJ w1 W0 bW bO wl ol w')) (fun v14 _ => G.length - (intOf v14).toNat)
        case atStart => exact ⟨0, wl, List.replicate L.length 0, by omega, rfl, ⟨HW.out.mono fun d => by have := hits_le L (doneP G 0 0) d; omega⟩, ⟨by rw [doneP_zero]; exact OwnP.start _ _⟩, ⟨HBL.out, rfl, fun _ _ _ => rfl, HBW0.out, HBO.out⟩⟩
        case round =>
          clear HBW0 HBO HW
          obtain ⟨k, wl, ol, hk, rfl, HW, HOW, HJ⟩ := hrel
          have hgn := HST.out.num
          have hb0 := hq_cell ((HJ.out.keep b11 lo2 lo3).trans H11.out) 0 _ rfl
          simp only [List.getElem_toArray, List.getElem_cons_zero, List.getElem_cons_succ] at hb0
          by_cases hkt : k < G.length
          · obtain ⟨g, hg⟩ : ∃ g, G[k]? = some g := ⟨_, List.getElem?_eq_getElem hkt⟩
            have hgm := List.mem_of_getElem? hg
            obtain ⟨hg1, hgl, hgb⟩ := HST.out.grp g hgm
            have HGK := Aside0.mk hg
            have HGB := Aside0.mk hgb
            have HGM := Aside0.mk hgm
            clear hg hgb hgm
            go_wp2
            clear hb0
            go_loopw [15] (fun v15 w' => ∃ (j : Nat) (wl ol : List Int), j ≤ g.length ∧ v15 = .int .i64 j ∧ Aside0 (WU m (fun d => U d + hits L (doneP G k j) d) wl) ∧ Aside0 (OwnP L.length G (doneP G k j) ol) ∧ Aside0 (WrJ w1 W0 bW bO wl ol w')) (fun v15 _ => g.length - (intOf v15).toNat)
            case atStart => exact ⟨0, wl, ol, by omega, rfl, HW, HOW, HJ⟩
            case round =>
              clear HW HOW HJ
              obtain ⟨j, wl, ol, hj, rfl, HW, HOW, HJ⟩ := hrel
              have hb0 := hq_cell ((HJ.out.keep b11 lo2 lo3).trans H11.out) 0 _ rfl
              simp only [List.getElem_toArray, List.getElem_cons_zero, List.getElem_cons_succ] at hb0
              obtain ⟨adG, cs, rfl, hcl2, hFK, hcc, _⟩ := Kd.F_get (Kd.F_step HFG0.out (fun q hq _ => HJ.out.keep q hq.1 hq.2)) ([] : List Int) (k : Int) (by omega) (by omega)
              simp only [Int.toNat_natCast] at hFK hcc
              rw [show G.getD k [] = g by simp [List.getD_eq_getElem?_getD, HGK.out]] at hFK
              obtain ⟨Ag, cg, rfl, hgc, hFg⟩ := Kd.FK_slice_open hFK
              have hcg : wr.cell? (adG.add k) = some (.slice Ag g.length cg) := by
                have := hcc 0 _ rfl
                rwa [show k * (Kd.slice 3 (Kd.int .i64)).sz + 0 = k by show k * 1 + 0 = k; omega] at this
              have HFGG := Aside0.mk hFg
              clear hcl2 hFK hcc hFg
              by_cases hjt : j < g.length
              · obtain ⟨x, hx⟩ : ∃ x, g[j]? = some x := ⟨_, List.getElem?_eq_getElem hjt⟩
                have hxb := HGB.out x (List.mem_of_getElem? hx)
                obtain ⟨xn, rfl⟩ : ∃ xn : Nat, x = (xn : Int) := ⟨x.toNat, by omega⟩
                have hxn : xn < L.length := by omega
                have HX := Aside0.mk hx
                obtain ⟨adg, rfl, hcx⟩ := Kd.at_int (Kd.F_now HFGG.out) (j : Int) (by omega) (by omega)
                simp only [Int.toNat_natCast] at hcx
                rw [show rd g (j : Int) = (xn : Int) by simp [rd, List.getD_eq_getElem?_getD, hx]] at hcx
                have hpos : ∀ p ∈ L, 1 ≤ p.f0 := fun p hp => (HG2.out.pos p hp).1
                have hf0 := fst_nn hpos (x := xn) (by omega)
                have hf1 := fst_succ (l := L) (x := xn) hxn
                have hf2 := fst_mono hpos (y := xn + 1) (z := L.length) (by omega) (Nat.le_refl _)
                have hf3 := hpos (rd_T43 L (xn : Int)) (by rw [rd43 hxn]; exact List.getElem_mem hxn)
                rw [fst_len HG2.out] at hf2
                obtain ⟨adF, rfl, hcF0⟩ := Kd.at_int (Kd.F_now HFF0.out) (xn : Int) (by omega) (by omega)
                obtain ⟨adL, rfl, hcL0, _⟩ := at_T43 (Kd.F_now HFL0.out) (xn : Int) (by omega) (by omega)
                simp only [Int.toNat_natCast] at hcF0 hcL0
                obtain ⟨fx, hfx⟩ : ∃ fx : Nat, fst L xn = (fx : Int) := ⟨(fst L xn).toNat, by omega⟩
                obtain ⟨nm, hnm⟩ : ∃ nm : Nat, (rd_T43 L (xn : Int)).f0 = (nm : Int) := ⟨(rd_T43 L (xn : Int)).f0.toNat, by omega⟩
                have hcells : ∀ (wl ol : List Int) (W : World), WrJ w1 W0 bW bO wl ol W → W.cell? (adF.add xn) = some (.int .i64 (fx : Int)) ∧ W.cell? (adL.add (xn * 2)) = some (.int .i64 (nm : Int)) := fun wl ol W h => by
                  obtain ⟨a1, e1, k1⟩ := Kd.at_int (Kd.F_now (Kd.F_step HFF0.out (fun q hq _ => h.keep q hq.1 hq.2))) (xn : Int) (by omega) (by omega)
                  obtain ⟨a2, e2, k2, _⟩ := at_T43 (Kd.F_now (Kd.F_step HFL0.out (fun q hq _ => h.keep q hq.1 hq.2))) (xn : Int) (by omega) (by omega)
                  cases e1
                  cases e2
                  simp only [Int.toNat_natCast] at k1 k2
                  rw [rd_firstL _ hxn, hfx] at k1
                  rw [hnm] at k2
                  exact ⟨k1, k2⟩
                have HCS := Aside0.mk hcells
                have hfree := HOW.out.free hxn (doneP_free HST.out.nod HGK.out hx)
                have hcO := nums_cell HJ.out.bo (c := xn) (by rw [HOW.out.len]; exact hxn)
                rw [hfree] at hcO
                have HFX := Aside0.mk hfx
                have HFN : Aside0 (fst L (xn + 1) = ((fx + nm : Nat) : Int)) := ⟨by omega⟩
                have hfm : fx + nm ≤ m := by omega
                have hnm1 : 1 ≤ nm := by omega
                obtain ⟨hcF, hcL⟩ := hcells _ _ _ HJ.out
                have HS27 : Aside0 (wr.cell? ⟨bO, xn, none⟩ = some (.int .i64 0) ∧ wr.cell? (adF.add xn) = some (.int .i64 (fx : Int)) ∧ wr.cell? (adL.add (xn * 2)) = some (.int .i64 (nm : Int))) := ⟨hcO, hcF, hcL⟩
                clear hx hxb hpos hf0 hf1 hf2 hf3 hcF0 hcL0 hfx hnm hcells hfree hcO hcF hcL
                go_wp2
                clear hb0 hcg hcx
                refine start_ (n := 37) (S := fun w' => w'.cell? ⟨bO, xn, none⟩ = some (.int .i64 0) ∧ w'.cell? (adF.add xn) = some (.int .i64 (fx : Int)) ∧ w'.cell? (adL.add (xn * 2)) = some (.int .i64 (nm : Int))) (ds := []) #[false, false, false, false, false, false, false, false, false, false, false, false, false, false, false, false, false, false, false, false, false, false, false, false, false, false, false, false, false, false, false, false, false, false, false, false, false] (by kernel_rfl) rfl rfl ((HS27.out : _)) (fun hHeld => ?_); refine with_tabW writes5.tab27 writes5.bits27 (fun HT_ HW_ => ?_)
                refine pure_ (i := 0) (N := some 95) (v := ?_) (a' := ?_) #[true, false, false, false, false, false, false, false, false, false, false, false, false, false, false, false, false, false, false, false, false, false, false, false, false, false, false, false, false, false, false, false, false, false, false, false, false] rfl rfl (any_of HT_.out (by kernel_rfl)) (fun _ _ _ h => h) (Or.inl ⟨by rfl, ?_⟩) ?_ ?_
                rotate_left
                · intro w'; go_simp; with_reducible rfl
                rotate_left
                · simp only [Act.put, List.setIfInBounds_toArray, List.set_cons_zero, List.set_cons_succ, i64_w, i32_w]; rfl
                refine pure_ (i := 1) (N := some 96) (v := .bool false) (a' := ?_) #[true, true, false, false, false, false, false, false, false, false, false, false, false, false, false, false, false, false, false, false, false, false, false, false, false, false, false, false, false, false, false, false, false, false, false, false, false] rfl rfl (any_of HT_.out (by kernel_rfl)) (fun _ _ _ h => h) (Or.inl ⟨by rfl, ?_⟩) ?_ ?_
                · intro w'; first | (go_simp; done) | (go_simp; omega)
                rotate_left
                · simp only [Act.put, List.setIfInBounds_toArray, List.set_cons_zero, List.set_cons_succ, i64_w, i32_w]; rfl
                refine pure_ (i := 2) (N := some 97) (v := ?_) (a' := ?_) #[true, true, true, false, false, false, false, false, false, false, false, false, false, false, false, false, false, false, false, false, false, false, false, false, false, false, false, false, false, false, false, false, false, false, false, false, false] rfl rfl (any_of HT_.out (by kernel_rfl)) (fun _ _ _ h => h) (Or.inl ⟨by rfl, ?_⟩) ?_ ?_
                rotate_left
                · intro w'; go_simp; with_reducible rfl
                rotate_left
                · simp only [Act.put, List.setIfInBounds_toArray, List.set_cons_zero, List.set_cons_succ, i64_w, i32_w]; rfl
                refine pure_ (i := 3) (N := some 98) (v := ?_) (a' := ?_) #[true, true, true, true, false, false, false, false, false, false, false, false, false, false, false, false, false, false, false, false, false, false, false, false, false, false, false, false, false, false, false, false, false, false, false, false, false] rfl rfl (any_of HT_.out (by kernel_rfl)) (fun _ _ _ h => h) (Or.inl ⟨by rfl, ?_⟩) ?_ ?_
                rotate_left
                · intro w'; go_simp; with_reducible rfl
                rotate_left
                · simp only [Act.put, List.setIfInBounds_toArray, List.set_cons_zero, List.set_cons_succ, i64_w, i32_w]; rfl
                refine pure_ (i := 4) (N := some 99) (v := ?_) (a' := ?_) #[true, true, true, true, true, false, false, false, false, false, false, false, false, false, false, false, false, false, false, false, false, false, false, false, false, false, false, false, false, false, false, false, false, false, false, false, false] rfl rfl (any_of HT_.out (by kernel_rfl)) (fun _ _ _ h => h) (Or.inl ⟨by rfl, ?_⟩) ?_ ?_
                rotate_left
                · intro w'; go_simp; with_reducible rfl
                rotate_left
                · simp only [Act.put, List.setIfInBounds_toArray, List.set_cons_zero, List.set_cons_succ, i64_w, i32_w]; rfl
                refine pure_ (i := 5) (N := some 100) (v := ?_) (a' := ?_) #[true, true, true, true, true, true, false, false, false, false, false, false, false, false, false, false, false, false, false, false, false, false, false, false, false, false, false, false, false, false, false, false, false, false, false, false, false] rfl rfl (any_of HT_.out (by kernel_rfl)) (fun _ _ _ h => h) (Or.inl ⟨by rfl, ?_⟩) ?_ ?_
                rotate_left
                · intro w'; go_simp; with_reducible rfl
                rotate_left
                · simp only [Act.put, List.setIfInBounds_toArray, List.set_cons_zero, List.set_cons_succ, i64_w, i32_w]; rfl
                refine pure_ (i := 6) (N := some 101) (v := .bool false) (a' := ?_) #[true, true, true, true, true, true, true, false, false, false, false, false, false, false, false, false, false, false, false, false, false, false, false, false, false, false, false, false, false, false, false, false, false, false, false, false, false] rfl rfl (any_of HT_.out (by kernel_rfl)) (fun _ _ _ h => h) (Or.inl ⟨by rfl, ?_⟩) ?_ ?_
                · intro w'; first | (go_simp; done) | (go_simp; omega)
                rotate_left
                · simp only [Act.put, List.setIfInBounds_toArray, List.set_cons_zero, List.set_cons_succ, i64_w, i32_w]; rfl
                refine pure_ (i := 7) (N := some 102) (v := ?_) (a' := ?_) #[true, true, true, true, true, true, true, true, false, false, false, false, false, false, false, false, false, false, false, false, false, false, false, false, false, false, false, false, false, false, false, false, false, false, false, false, false] rfl rfl (any_of HT_.out (by kernel_rfl)) (fun _ _ _ h => h) (Or.inl ⟨by rfl, ?_⟩) ?_ ?_
                rotate_left
                · intro w'; go_simp; with_reducible rfl
                rotate_left
                · simp only [Act.put, List.setIfInBounds_toArray, List.set_cons_zero, List.set_cons_succ, i64_w, i32_w]; rfl
                refine pure_ (i := 8) (N := some 103) (v := ?_) (a' := ?_) #[true, true, true, true, true, true, true, true, true, false, false, false, false, false, false, false, false, false, false, false, false, false, false, false, false, false, false, false, false, false, false, false, false, false, false, false, false] rfl rfl (any_of HT_.out (by kernel_rfl)) (fun _ _ _ h => h) (Or.inl ⟨by rfl, ?_⟩) ?_ ?_
                rotate_left
                · intro w'; go_simp; with_reducible rfl
                rotate_left
                · simp only [Act.put, List.setIfInBounds_toArray, List.set_cons_zero, List.set_cons_succ, i64_w, i32_w]; rfl
                refine pure_ (i := 9) (N := some 104) (v := ?_) (a' := ?_) #[true, true, true, true, true, true, true, true, true, true, false, false, false, false, false, false, false, false, false, false, false, false, false, false, false, false, false, false, false, false, false, false, false, false, false, false, false] rfl rfl (any_of HT_.out (by kernel_rfl)) (fun _ _ _ h => h) (Or.inl ⟨by rfl, ?_⟩) ?_ ?_
                rotate_left
                · intro w'; go_simp; with_reducible rfl
                rotate_left
                · simp only [Act.put, List.setIfInBounds_toArray, List.set_cons_zero, List.set_cons_succ, i64_w, i32_w]; rfl
                refine pure_ (i := 10) (N := some 105) (v := ?_) (a' := ?_) #[true, true, true, true, true, true, true, true, true, true, true, false, false, false, false, false, false, false, false, false, false, false, false, false, false, false, false, false, false, false, false, false, false, false, false, false, false] rfl rfl (any_of HT_.out (by kernel_rfl)) (fun _ _ _ h => h) (Or.inl ⟨by rfl, ?_⟩) ?_ ?_
                rotate_left
                · intro w'; go_simp; with_reducible rfl
                rotate_left
                · simp only [Act.put, List.setIfInBounds_toArray, List.set_cons_zero, List.set_cons_succ, i64_w, i32_w]; rfl
                refine pure_ (i := 11) (N := some 106) (v := ?_) (a' := ?_) #[true, true, true, true, true, true, true, true, true, true, true, true, false, false, false, false, false, false, false, false, false, false, false, false, false, false, false, false, false, false, false, false, false, false, false, false, false] rfl rfl (any_of HT_.out (by kernel_rfl)) (fun _ _ _ h => h) (Or.inl ⟨by rfl, ?_⟩) ?_ ?_
                rotate_left
                · intro w'; go_simp; with_reducible rfl
                rotate_left
                · simp only [Act.put, List.setIfInBounds_toArray, List.set_cons_zero, List.set_cons_succ, i64_w, i32_w]; rfl
                refine take_ (i := 12) (N := some 107) (v := ?_) (a' := ?_) #[true, true, true, true, true, true, true, true, true, true, true, true, true, false, false, false, false, false, false, false, false, false, false, false, false, false, false, false, false, false, false, false, false, false, false, false, false] rfl rfl (take_ofW HT_.out HW_.out (by kernel_rfl)) (fun _ _ _ h => h) (Or.inl ⟨by rfl, ?_⟩) hHeld ?_ ?_
                rotate_left
                · rintro w' ⟨s0, s1, s2⟩; go_simp; with_reducible rfl
                rotate_left
                · simp only [Act.put, List.setIfInBounds_toArray, List.set_cons_zero, List.set_cons_succ, i64_w, i32_w]; rfl
                refine pure_ (i := 13) (N := some 108) (v := ?_) (a' := ?_) #[true, true, true, true, true, true, true, true, true, true, true, true, true, true, false, false, false, false, false, false, false, false, false, false, false, false, false, false, false, false, false, false, false, false, false, false, false] rfl rfl (any_of HT_.out (by kernel_rfl)) (fun _ _ _ h => h) (Or.inl ⟨by rfl, ?_⟩) ?_ ?_
                rotate_left
                · intro w'; go_simp; with_reducible rfl
                rotate_left
                · simp only [Act.put, List.setIfInBounds_toArray, List.set_cons_zero, List.set_cons_succ, i64_w, i32_w]; rfl
                refine pure_ (i := 14) (N := some 109) (v := ?_) (a' := ?_) #[true, true, true, true, true, true, true, true, true, true, true, true, true, true, true, false, false, false, false, false, false, false, false, false, false, false, false, false, false, false, false, false, false, false, false, false, false] rfl rfl (any_of HT_.out (by kernel_rfl)) (fun _ _ _ h => h) (Or.inl ⟨by rfl, ?_⟩) ?_ ?_
                rotate_left
                · intro w'; go_simp; with_reducible rfl
                rotate_left
                · simp only [Act.put, List.setIfInBounds_toArray, List.set_cons_zero, List.set_cons_succ, i64_w, i32_w]; rfl
                refine pure_ (i := 15) (N := some 110) (v := ?_) (a' := ?_) #[true, true, true, true, true, true, true, true, true, true, true, true, true, true, true, true, false, false, false, false, false, false, false, false, false, false, false, false, false, false, false, false, false, false, false, false, false] rfl rfl (any_of HT_.out (by kernel_rfl)) (fun _ _ _ h => h) (Or.inl ⟨by rfl, ?_⟩) ?_ ?_
                rotate_left
                · intro w'; go_simp; with_reducible rfl
                rotate_left
                · simp only [Act.put, List.setIfInBounds_toArray, List.set_cons_zero, List.set_cons_succ, i64_w, i32_w]; rfl
                refine pure_ (i := 16) (N := some 111) (v := ?_) (a' := ?_) #[true, true, true, true, true, true, true, true, true, true, true, true, true, true, true, true, true, false, false, false, false, false, false, false, false, false, false, false, false, false, false, false, false, false, false, false, false] rfl rfl (any_of HT_.out (by kernel_rfl)) (fun _ _ _ h => h) (Or.inl ⟨by rfl, ?_⟩) ?_ ?_
                rotate_left
                · intro w'; go_simp; with_reducible rfl
                rotate_left
                · simp only [Act.put, List.setIfInBounds_toArray, List.set_cons_zero, List.set_cons_succ, i64_w, i32_w]; rfl
                refine pure_ (i := 17) (N := some 112) (v := ?_) (a' := ?_) #[true, true, true, true, true, true, true, true, true, true, true, true, true, true, true, true, true, true, false, false, false, false, false, false, false, false, false, false, false, false, false, false, false, false, false, false, false] rfl rfl (any_of HT_.out (by kernel_rfl)) (fun _ _ _ h => h) (Or.inl ⟨by rfl, ?_⟩) ?_ ?_
                rotate_left
                · intro w'; go_simp; with_reducible rfl
                rotate_left
                · simp only [Act.put, List.setIfInBounds_toArray, List.set_cons_zero, List.set_cons_succ, i64_w, i32_w]; rfl
                refine pure_ (i := 18) (N := some 113) (v := ?_) (a' := ?_) #[true, true, true, true, true, true, true, true, true, true, true, true, true, true, true, true, true, true, true, false, false, false, false, false, false, false, false, false, false, false, false, false, false, false, false, false, false] rfl rfl (any_of HT_.out (by kernel_rfl)) (fun _ _ _ h => h) (Or.inl ⟨by rfl, ?_⟩) ?_ ?_
                rotate_left
                · intro w'; go_simp; with_reducible rfl
                rotate_left
                · simp only [Act.put, List.setIfInBounds_toArray, List.set_cons_zero, List.set_cons_succ, i64_w, i32_w]; rfl
                refine take_ (i := 19) (N := some 114) (v := ?_) (a' := ?_) #[true, true, true, true, true, true, true, true, true, true, true, true, true, true, true, true, true, true, true, true, false, false, false, false, false, false, false, false, false, false, false, false, false, false, false, false, false] rfl rfl (take_ofW HT_.out HW_.out (by kernel_rfl)) (fun _ _ _ h => h) (Or.inl ⟨by rfl, ?_⟩) hHeld ?_ ?_
                rotate_left
                · rintro w' ⟨s0, s1, s2⟩; go_simp; with_reducible rfl
                rotate_left
                · simp only [Act.put, List.setIfInBounds_toArray, List.set_cons_zero, List.set_cons_succ, i64_w, i32_w]; rfl
                refine pure_ (i := 20) (N := some 115) (v := .bool false) (a' := ?_) #[true, true, true, true, true, true, true, true, true, true, true, true, true, true, true, true, true, true, true, true, true, false, false, false, false, false, false, false, false, false, false, false, false, false, false, false, false] rfl rfl (any_of HT_.out (by kernel_rfl)) (fun _ _ _ h => h) (Or.inl ⟨by rfl, ?_⟩) ?_ ?_
                · intro w'; first | (go_simp; done) | (go_simp; omega)
                rotate_left
                · simp only [Act.put, List.setIfInBounds_toArray, List.set_cons_zero, List.set_cons_succ, i64_w, i32_w]; rfl
                refine pure_ (i := 21) (N := some 116) (v := ?_) (a' := ?_) #[true, true, true, true, true, true, true, true, true, true, true, true, true, true, true, true, true, true, true, true, true, true, false, false, false, false, false, false, false, false, false, false, false, false, false, false, false] rfl rfl (any_of HT_.out (by kernel_rfl)) (fun _ _ _ h => h) (Or.inl ⟨by rfl, ?_⟩) ?_ ?_
                rotate_left
                · intro w'; go_simp; with_reducible rfl
                rotate_left
                · simp only [Act.put, List.setIfInBounds_toArray, List.set_cons_zero, List.set_cons_succ, i64_w, i32_w]; rfl
                refine pure_ (i := 22) (N := some 117) (v := ?_) (a' := ?_) #[true, true, true, true, true, true, true, true, true, true, true, true, true, true, true, true, true, true, true, true, true, true, true, false, false, false, false, false, false, false, false, false, false, false, false, false, false] rfl rfl (any_of HT_.out (by kernel_rfl)) (fun _ _ _ h => h) (Or.inl ⟨by rfl, ?_⟩) ?_ ?_
                rotate_left
                · intro w'; go_simp; with_reducible rfl
                rotate_left
                · simp only [Act.put, List.setIfInBounds_toArray, List.set_cons_zero, List.set_cons_succ, i64_w, i32_w]; rfl
                refine pure_ (i := 23) (N := some 118) (v := ?_) (a' := ?_) #[true, true, true, true, true, true, true, true, true, true, true, true, true, true, true, true, true, true, true, true, true, true, true, true, false, false, false, false, false, false, false, false, false, false, false, false, false] rfl rfl (any_of HT_.out (by kernel_rfl)) (fun _ _ _ h => h) (Or.inl ⟨by rfl, ?_⟩) ?_ ?_
                rotate_left
                · intro w'; go_simp; with_reducible rfl
                rotate_left
                · simp only [Act.put, List.setIfInBounds_toArray, List.set_cons_zero, List.set_cons_succ, i64_w, i32_w]; rfl
                refine pure_ (i := 24) (N := some 119) (v := ?_) (a' := ?_) #[true, true, true, true, true, true, true, true, true, true, true, true, true, true, true, true, true, true, true, true, true, true, true, true, true, false, false, false, false, false, false, false, false, false, false, false, false] rfl rfl (any_of HT_.out (by kernel_rfl)) (fun _ _ _ h => h) (Or.inl ⟨by rfl, ?_⟩) ?_ ?_
                rotate_left
                · intro w'; go_simp; with_reducible rfl
                rotate_left
                · simp only [Act.put, List.setIfInBounds_toArray, List.set_cons_zero, List.set_cons_succ, i64_w, i32_w]; rfl
                refine pure_ (i := 25) (N := some 120) (v := ?_) (a' := ?_) #[true, true, true, true, true, true, true, true, true, true, true, true, true, true, true, true, true, true, true, true, true, true, true, true, true, true, false, false, false, false, false, false, false, false, false, false, false] rfl rfl (any_of HT_.out (by kernel_rfl)) (fun _ _ _ h => h) (Or.inl ⟨by rfl, ?_⟩) ?_ ?_
                rotate_left
                · intro w'; go_simp; with_reducible rfl
                rotate_left
                · simp only [Act.put, List.setIfInBounds_toArray, List.set_cons_zero, List.set_cons_succ, i64_w, i32_w]; rfl
                refine pure_ (i := 27) (N := some 122) (v := ?_) (a' := ?_) #[true, true, true, true, true, true, true, true, true, true, true, true, true, true, true, true, true, true, true, true, true, true, true, true, true, true, false, true, false, false, false, false, false, false, false, false, false] rfl rfl (any_of HT_.out (by kernel_rfl)) (fun _ _ _ h => h) (Or.inl ⟨by rfl, ?_⟩) ?_ ?_
                rotate_left
                · intro w'; go_simp; with_reducible rfl
                rotate_left
                · simp only [Act.put, List.setIfInBounds_toArray, List.set_cons_zero, List.set_cons_succ, i64_w, i32_w]; rfl
                refine pure_ (i := 28) (N := some 123) (v := ?_) (a' := ?_) #[true, true, true, true, true, true, true, true, true, true, true, true, true, true, true, true, true, true, true, true, true, true, true, true, true, true, false, true, true, false, false, false, false, false, false, false, false] rfl rfl (any_of HT_.out (by kernel_rfl)) (fun _ _ _ h => h) (Or.inl ⟨by rfl, ?_⟩) ?_ ?_
                rotate_left
                · intro w'; go_simp; with_reducible rfl
                rotate_left
                · simp only [Act.put, List.setIfInBounds_toArray, List.set_cons_zero, List.set_cons_succ, i64_w, i32_w]; rfl
                refine pure_ (i := 29) (N := some 124) (v := ?_) (a' := ?_) #[true, true, true, true, true, true, true, true, true, true, true, true, true, true, true, true, true, true, true, true, true, true, true, true, true, true, false, true, true, true, false, false, false, false, false, false, false] rfl rfl (any_of HT_.out (by kernel_rfl)) (fun _ _ _ h => h) (Or.inl ⟨by rfl, ?_⟩) ?_ ?_
                rotate_left
                · intro w'; go_simp; with_reducible rfl
                rotate_left
                · simp only [Act.put, List.setIfInBounds_toArray, List.set_cons_zero, List.set_cons_succ, i64_w, i32_w]; rfl
                refine pure_ (i := 30) (N := some 125) (v := ?_) (a' := ?_) #[true, true, true, true, true, true, true, true, true, true, true, true, true, true, true, true, true, true, true, true, true, true, true, true, true, true, false, true, true, true, true, false, false, false, false, false, false] rfl rfl (any_of HT_.out (by kernel_rfl)) (fun _ _ _ h => h) (Or.inl ⟨by rfl, ?_⟩) ?_ ?_
                rotate_left
                · intro w'; go_simp; with_reducible rfl
                rotate_left
                · simp only [Act.put, List.setIfInBounds_toArray, List.set_cons_zero, List.set_cons_succ, i64_w, i32_w]; rfl
                refine pure_ (i := 33) (N := some 128) (v := ?_) (a' := ?_) #[true, true, true, true, true, true, true, true, true, true, true, true, true, true, true, true, true, true, true, true, true, true, true, true, true, true, false, true, true, true, true, false, false, true, false, false, false] rfl rfl (any_of HT_.out (by kernel_rfl)) (fun _ _ _ h => h) (Or.inl ⟨by rfl, ?_⟩) ?_ ?_
                rotate_left
                · intro w'; go_simp; with_reducible rfl
                rotate_left
                · simp only [Act.put, List.setIfInBounds_toArray, List.set_cons_zero, List.set_cons_succ, i64_w, i32_w]; rfl
                refine pure_ (i := 34) (N := some 129) (v := ?_) (a' := ?_) #[true, true, true, true, true, true, true, true, true, true, true, true, true, true, true, true, true, true, true, true, true, true, true, true, true, true, false, true, true, true, true, false, false, true, true, false, false] rfl rfl (any_of HT_.out (by kernel_rfl)) (fun _ _ _ h => h) (Or.inl ⟨by rfl, ?_⟩) ?_ ?_
                rotate_left
                · intro w'; go_simp; with_reducible rfl
                rotate_left
                · simp only [Act.put, List.setIfInBounds_toArray, List.set_cons_zero, List.set_cons_succ, i64_w, i32_w]; rfl
                refine take_ (i := 26) (N := some 121) (v := ?_) (a' := ?_) #[true, true, true, true, true, true, true, true, true, true, true, true, true, true, true, true, true, true, true, true, true, true, true, true, true, true, true, true, true, true, true, false, false, true, true, false, false] rfl rfl (take_ofW HT_.out HW_.out (by kernel_rfl)) (fun _ _ _ h => h) (Or.inl ⟨by rfl, ?_⟩) hHeld ?_ ?_
                rotate_left
                · rintro w' ⟨s0, s1, s2⟩; go_simp; with_reducible rfl
                rotate_left
                · simp only [Act.put, List.setIfInBounds_toArray, List.set_cons_zero, List.set_cons_succ, i64_w, i32_w]; rfl
                refine take_ (i := 31) (N := some 126) (v := ?_) (a' := ?_) #[true, true, true, true, true, true, true, true, true, true, true, true, true, true, true, true, true, true, true, true, true, true, true, true, true, true, true, true, true, true, true, true, false, true, true, false, false] rfl rfl (take_ofW HT_.out HW_.out (by kernel_rfl)) (fun _ _ _ h => h) (Or.inl ⟨by rfl, ?_⟩) hHeld ?_ ?_
                rotate_left
                · rintro w' ⟨s0, s1, s2⟩; go_simp; with_reducible rfl
                rotate_left
                · simp only [Act.put, List.setIfInBounds_toArray, List.set_cons_zero, List.set_cons_succ, i64_w, i32_w]; rfl
                refine pure_ (i := 32) (N := some 127) (v := ?_) (a' := ?_) #[true, true, true, true, true, true, true, true, true, true, true, true, true, true, true, true, true, true, true, true, true, true, true, true, true, true, true, true, true, true, true, true, true, true, true, false, false] rfl rfl (any_of HT_.out (by kernel_rfl)) (fun _ _ _ h => h) (Or.inl ⟨by rfl, ?_⟩) ?_ ?_
                rotate_left
                · intro w'; go_simp; with_reducible rfl
                rotate_left
                · simp only [Act.put, List.setIfInBounds_toArray, List.set_cons_zero, List.set_cons_succ, i64_w, i32_w]; rfl
                refine pure_ (i := 35) (N := some 130) (v := .bool false) (a' := ?_) #[true, true, true, true, true, true, true, true, true, true, true, true, true, true, true, true, true, true, true, true, true, true, true, true, true, true, true, true, true, true, true, true, true, true, true, true, false] rfl rfl (any_of HT_.out (by kernel_rfl)) (fun _ _ _ h => h) (Or.inl ⟨by rfl, ?_⟩) ?_ ?_
                · intro w'; first | (go_simp; done) | (go_simp; omega) | (go_simp; rw [w64in _ (by omega)]; omega)
                rotate_left
                · simp only [Act.put, List.setIfInBounds_toArray, List.set_cons_zero, List.set_cons_succ, i64_w, i32_w]; rfl
                refine pure_ (i := 36) (N := some 131) (v := ?_) (a' := ?_) #[true, true, true, true, true, true, true, true, true, true, true, true, true, true, true, true, true, true, true, true, true, true, true, true, true, true, true, true, true, true, true, true, true, true, true, true, true] rfl rfl (any_of HT_.out (by kernel_rfl)) (fun _ _ _ h => h) (Or.inl ⟨by rfl, ?_⟩) ?_ ?_
                rotate_left
                · intro w'; go_simp; with_reducible rfl
                rotate_left
                · simp only [Act.put, List.setIfInBounds_toArray, List.set_cons_zero, List.set_cons_succ, i64_w, i32_w]; rfl
                refine done_ (done_of HT_.out (by kernel_rfl)) ?_
                have hj2 := HJ.out.setO lo1 lo6 xn (1 + (k : Int))
                have HJ2 := Aside0.mk hj2.drew
                have how2 := HOW.out.set (k := k) hkt hxn (by rw [show G.getD k [] = g by simp [List.getD_eq_getElem?_getD, HGK.out]]; exact List.mem_of_getElem? HX.out)
                rw [← doneP_snoc HGK.out HX.out, show (k : Int) + 1 = 1 + (k : Int) by omega] at how2
                have HOW2 := Aside0.mk how2
                have hcO : wr.drew.cell? ⟨bO, xn, none⟩ = some (.int .i64 0) := HS27.out.1
                have hfO : wr.drew.frozen? ⟨bO, xn, none⟩ = false := blk_free HJ.out.drew.bo xn
                have hcF1 := (HCS.out _ _ _ hj2).1
                clear hj2 how2 hHeld HT_ HW_ HS27 HJ HOW
                go_wp2
                clear hcO hfO hcF1
                go_loopw [17] (fun v17 w' => ∃ (cc : Nat) (wl : List Int), fx ≤ cc ∧ cc ≤ fx + nm ∧ v17 = .int .i64 cc ∧ Aside0 (WU m (fun d => U d + hits L (doneP G k j) d + if fx ≤ d ∧ d < cc then 1 else 0) wl) ∧ Aside0 (WrJ w1 W0 bW bO wl (ol.set xn (1 + (k : Int))) w')) (fun v17 _ => fx + nm - (intOf v17).toNat)
                case atStart => exact ⟨fx, wl, by omega, by omega, rfl, ⟨HW.out.mono fun d => by split <;> omega⟩, HJ2⟩
                case round =>
                  clear HW HJ2
                  obtain ⟨cc, wl, hc0, hc1, rfl, HW, HJ⟩ := hrel
                  obtain ⟨hcF, hcL⟩ := HCS.out _ _ _ HJ.out
                  have HS31 : Aside0 (wr.cell? (adF.add xn) = some (.int .i64 (fx : Int)) ∧ wr.cell? (adL.add (xn * 2)) = some (.int .i64 (nm : Int))) := ⟨hcF, hcL⟩
                  have hw64 : wrap64 ((fx : Int) + (nm : Int)) = (fx : Int) + (nm : Int) := w64in _ (by omega)
                  have HW64 := Aside0.mk hw64
                  clear hcF hcL hw64
                  by_cases hct : cc < fx + nm
                  · go_wp2
                    refine start_ (n := 12) (S := fun w' => w'.cell? (adF.add xn) = some (.int .i64 (fx : Int)) ∧ w'.cell? (adL.add (xn * 2)) = some (.int .i64 (nm : Int))) (ds := []) #[false, false, false, false, false, false, false, false, false, false, false, false] (by kernel_rfl) rfl rfl ((HS31.out : _)) (fun hHeld => ?_); refine with_tabW writes5.tab31 writes5.bits31 (fun HT_ HW_ => ?_)
                    refine pure_ (i := 0) (N := some 141) (v := ?_) (a' := ?_) #[true, false, false, false, false, false, false, false, false, false, false, false] rfl rfl (any_of HT_.out (by kernel_rfl)) (fun _ _ _ h => h) (Or.inl ⟨by rfl, ?_⟩) ?_ ?_
                    rotate_left
                    · intro w'; go_simp; with_reducible rfl
                    rotate_left
                    · simp only [Act.put, List.setIfInBounds_toArray, List.set_cons_zero, List.set_cons_succ, i64_w, i32_w]; rfl
                    refine pure_ (i := 1) (N := some 142) (v := ?_) (a' := ?_) #[true, true, false, false, false, false, false, false, false, false, false, false] rfl rfl (any_of HT_.out (by kernel_rfl)) (fun _ _ _ h => h) (Or.inl ⟨by rfl, ?_⟩) ?_ ?_
                    rotate_left
                    · intro w'; go_simp; with_reducible rfl
                    rotate_left
                    · simp only [Act.put, List.setIfInBounds_toArray, List.set_cons_zero, List.set_cons_succ, i64_w, i32_w]; rfl
                    refine pure_ (i := 2) (N := some 143) (v := ?_) (a' := ?_) #[true, true, true, false, false, false, false, false, false, false, false, false] rfl rfl (any_of HT_.out (by kernel_rfl)) (fun _ _ _ h => h) (Or.inl ⟨by rfl, ?_⟩) ?_ ?_
                    rotate_left
                    · intro w'; go_simp; with_reducible rfl
                    rotate_left
                    · simp only [Act.put, List.setIfInBounds_toArray, List.set_cons_zero, List.set_cons_succ, i64_w, i32_w]; rfl
                    refine pure_ (i := 3) (N := some 144) (v := ?_) (a' := ?_) #[true, true, true, true, false, false, false, false, false, false, false, false] rfl rfl (any_of HT_.out (by kernel_rfl)) (fun _ _ _ h => h) (Or.inl ⟨by rfl, ?_⟩) ?_ ?_
                    rotate_left
                    · intro w'; go_simp; with_reducible rfl
                    rotate_left
                    · simp only [Act.put, List.setIfInBounds_toArray, List.set_cons_zero, List.set_cons_succ, i64_w, i32_w]; rfl
                    refine pure_ (i := 5) (N := some 146) (v := ?_) (a' := ?_) #[true, true, true, true, false, true, false, false, false, false, false, false] rfl rfl (any_of HT_.out (by kernel_rfl)) (fun _ _ _ h => h) (Or.inl ⟨by rfl, ?_⟩) ?_ ?_
                    rotate_left
                    · intro w'; go_simp; with_reducible rfl
                    rotate_left
                    · simp only [Act.put, List.setIfInBounds_toArray, List.set_cons_zero, List.set_cons_succ, i64_w, i32_w]; rfl
                    refine pure_ (i := 6) (N := some 147) (v := ?_) (a' := ?_) #[true, true, true, true, false, true, true, false, false, false, false, false] rfl rfl (any_of HT_.out (by kernel_rfl)) (fun _ _ _ h => h) (Or.inl ⟨by rfl, ?_⟩) ?_ ?_
                    rotate_left
                    · intro w'; go_simp; with_reducible rfl
                    rotate_left
                    · simp only [Act.put, List.setIfInBounds_toArray, List.set_cons_zero, List.set_cons_succ, i64_w, i32_w]; rfl
                    refine pure_ (i := 7) (N := some 148) (v := ?_) (a' := ?_) #[true, true, true, true, false, true, true, true, false, false, false, false] rfl rfl (any_of HT_.out (by kernel_rfl)) (fun _ _ _ h => h) (Or.inl ⟨by rfl, ?_⟩) ?_ ?_
                    rotate_left
                    · intro w'; go_simp; with_reducible rfl
                    rotate_left
                    · simp only [Act.put, List.setIfInBounds_toArray, List.set_cons_zero, List.set_cons_succ, i64_w, i32_w]; rfl
                    refine pure_ (i := 8) (N := some 149) (v := ?_) (a' := ?_) #[true, true, true, true, false, true, true, true, true, false, false, false] rfl rfl (any_of HT_.out (by kernel_rfl)) (fun _ _ _ h => h) (Or.inl ⟨by rfl, ?_⟩) ?_ ?_
                    rotate_left
                    · intro w'; go_simp; with_reducible rfl
                    rotate_left
                    · simp only [Act.put, List.setIfInBounds_toArray, List.set_cons_zero, List.set_cons_succ, i64_w, i32_w]; rfl
                    refine take_ (i := 4) (N := some 145) (v := ?_) (a' := ?_) #[true, true, true, true, true, true, true, true, true, false, false, false] rfl rfl (take_ofW HT_.out HW_.out (by kernel_rfl)) (fun _ _ _ h => h) (Or.inl ⟨by rfl, ?_⟩) hHeld ?_ ?_
                    rotate_left
                    · rintro w' ⟨s0, s1⟩; go_simp; with_reducible rfl
                    rotate_left
                    · simp only [Act.put, List.setIfInBounds_toArray, List.set_cons_zero, List.set_cons_succ, i64_w, i32_w]; rfl
                    refine take_ (i := 9) (N := some 150) (v := ?_) (a' := ?_) #[true, true, true, true, true, true, true, true, true, true, false, false] rfl rfl (take_ofW HT_.out HW_.out (by kernel_rfl)) (fun _ _ _ h => h) (Or.inl ⟨by rfl, ?_⟩) hHeld ?_ ?_
                    rotate_left
                    · rintro w' ⟨s0, s1⟩; go_simp; with_reducible rfl
                    rotate_left
                    · simp only [Act.put, List.setIfInBounds_toArray, List.set_cons_zero, List.set_cons_succ, i64_w, i32_w]; rfl
                    refine pure_ (i := 10) (N := some 151) (v := ?_) (a' := ?_) #[true, true, true, true, true, true, true, true, true, true, true, false] rfl rfl (any_of HT_.out (by kernel_rfl)) (fun _ _ _ h => h) (Or.inl ⟨by rfl, ?_⟩) ?_ ?_
                    rotate_left
                    · intro w'; go_simp; with_reducible rfl
                    rotate_left
                    · simp only [Act.put, List.setIfInBounds_toArray, List.set_cons_zero, List.set_cons_succ, i64_w, i32_w]; rfl
                    refine pure_ (i := 11) (N := some 152) (v := .bool true) (a' := ?_) #[true, true, true, true, true, true, true, true, true, true, true, true] rfl rfl (any_of HT_.out (by kernel_rfl)) (fun _ _ _ h => h) (Or.inl ⟨by rfl, ?_⟩) ?_ ?_
                    · intro w'; first | (go_simp; done) | (go_simp; omega) | (go_simp; rw [HW64.out]; omega)
                    rotate_left
                    · simp only [Act.put, List.setIfInBounds_toArray, List.set_cons_zero, List.set_cons_succ, i64_w, i32_w]; rfl
                    refine done_ (done_of HT_.out (by kernel_rfl)) ?_
                    have hwb := HW.out.2 cc (by omega)
                    have hcW := nums_cell HJ.out.drew.bw (c := cc) (by rw [HW.out.1]; omega)
                    have hfW : wr.drew.frozen? ⟨bW, cc, none⟩ = false := blk_free HJ.out.drew.bw cc
                    obtain ⟨q, hq⟩ : ∃ q, q = rd wl (cc : Int) := ⟨_, rfl⟩
                    have hub := HUB.out cc
                    have hht := hits_le L (doneP G k j) cc
                    have hdl := doneP_len (G := G) L.length HST.out.tot (k := k) (j := j)
                    have hq0 : 0 ≤ q ∧ q ≤ 100000 := by
                      rw [← hq] at hwb
                      simp only at hwb
                      split at hwb <;> omega
                    rw [← hq] at hcW
                    have hw2 : WU m (fun d => U d + hits L (doneP G k j) d + if fx ≤ d ∧ d < cc + 1 then 1 else 0) (wl.set cc (q + 1)) :=
                      (HW.out.set (c := cc) (by omega) (v := q + 1) (by rw [hq])).mono fun d => by
                        show U d + hits L (doneP G k j) d + (if fx ≤ d ∧ d < cc then 1 else 0) + (if d = cc then 1 else 0) ≤ U d + hits L (doneP G k j) d + (if fx ≤ d ∧ d < cc + 1 then 1 else 0)
                        by_cases h1 : fx ≤ d ∧ d < cc
                        · rw [if_pos h1, if_neg (by omega), if_pos (by omega)]; omega
                        · by_cases h2 : d = cc
                          · rw [if_neg h1, if_pos h2, if_pos (by omega)]; omega
                          · rw [if_neg h1, if_neg h2, if_neg (by omega)]; omega
                    have HW2 := Aside0.mk hw2
                    have HJ3 := Aside0.mk (HJ.out.setW hbWlo lo6 cc (q + 1)).drew
                    obtain ⟨hq0, hq1⟩ := hq0
                    clear hw2 hwb hub hht hdl hq hHeld HT_ HW_ HS31 HW HJ
                    go_wp2
                    go_roundw
                    case rel => exact ⟨cc + 1, wl.set cc (q + 1), by omega, by omega, by go_num, HW2, HJ3⟩
                    case measure => simp [intOf]; omega
                  · go_wp2
                    refine start_ (n := 12) (S := fun w' => w'.cell? (adF.add xn) = some (.int .i64 (fx : Int)) ∧ w'.cell? (adL.add (xn * 2)) = some (.int .i64 (nm : Int))) (ds := []) #[false, false, false, false, false, false, false, false, false, false, false, false] (by kernel_rfl) rfl rfl ((HS31.out : _)) (fun hHeld => ?_); refine with_tabW writes5.tab31 writes5.bits31 (fun HT_ HW_ => ?_)
                    refine pure_ (i := 0) (N := some 141) (v := ?_) (a' := ?_) #[true, false, false, false, false, false, false, false, false, false, false, false] rfl rfl (any_of HT_.out (by kernel_rfl)) (fun _ _ _ h => h) (Or.inl ⟨by rfl, ?_⟩) ?_ ?_
                    rotate_left
                    · intro w'; go_simp; with_reducible rfl
                    rotate_left
                    · simp only [Act.put, List.setIfInBounds_toArray, List.set_cons_zero, List.set_cons_succ, i64_w, i32_w]; rfl
                    refine pure_ (i := 1) (N := some 142) (v := ?_) (a' := ?_) #[true, true, false, false, false, false, false, false, false, false, false, false] rfl rfl (any_of HT_.out (by kernel_rfl)) (fun _ _ _ h => h) (Or.inl ⟨by rfl, ?_⟩) ?_ ?_
                    rotate_left
                    · intro w'; go_simp; with_reducible rfl
                    rotate_left
                    · simp only [Act.put, List.setIfInBounds_toArray, List.set_cons_zero, List.set_cons_succ, i64_w, i32_w]; rfl
                    refine pure_ (i := 2) (N := some 143) (v := ?_) (a' := ?_) #[true, true, true, false, false, false, false, false, false, false, false, false] rfl rfl (any_of HT_.out (by kernel_rfl)) (fun _ _ _ h => h) (Or.inl ⟨by rfl, ?_⟩) ?_ ?_
                    rotate_left
                    · intro w'; go_simp; with_reducible rfl
                    rotate_left
                    · simp only [Act.put, List.setIfInBounds_toArray, List.set_cons_zero, List.set_cons_succ, i64_w, i32_w]; rfl
                    refine pure_ (i := 3) (N := some 144) (v := ?_) (a' := ?_) #[true, true, true, true, false, false, false, false, false, false, false, false] rfl rfl (any_of HT_.out (by kernel_rfl)) (fun _ _ _ h => h) (Or.inl ⟨by rfl, ?_⟩) ?_ ?_
                    rotate_left
                    · intro w'; go_simp; with_reducible rfl
                    rotate_left
                    · simp only [Act.put, List.setIfInBounds_toArray, List.set_cons_zero, List.set_cons_succ, i64_w, i32_w]; rfl
                    refine pure_ (i := 5) (N := some 146) (v := ?_) (a' := ?_) #[true, true, true, true, false, true, false, false, false, false, false, false] rfl rfl (any_of HT_.out (by kernel_rfl)) (fun _ _ _ h => h) (Or.inl ⟨by rfl, ?_⟩) ?_ ?_
                    rotate_left
                    · intro w'; go_simp; with_reducible rfl
                    rotate_left
                    · simp only [Act.put, List.setIfInBounds_toArray, List.set_cons_zero, List.set_cons_succ, i64_w, i32_w]; rfl
                    refine pure_ (i := 6) (N := some 147) (v := ?_) (a' := ?_) #[true, true, true, true, false, true, true, false, false, false, false, false] rfl rfl (any_of HT_.out (by kernel_rfl)) (fun _ _ _ h => h) (Or.inl ⟨by rfl, ?_⟩) ?_ ?_
                    rotate_left
                    · intro w'; go_simp; with_reducible rfl
                    rotate_left
                    · simp only [Act.put, List.setIfInBounds_toArray, List.set_cons_zero, List.set_cons_succ, i64_w, i32_w]; rfl
                    refine pure_ (i := 7) (N := some 148) (v := ?_) (a' := ?_) #[true, true, true, true, false, true, true, true, false, false, false, false] rfl rfl (any_of HT_.out (by kernel_rfl)) (fun _ _ _ h => h) (Or.inl ⟨by rfl, ?_⟩) ?_ ?_
                    rotate_left
                    · intro w'; go_simp; with_reducible rfl
                    rotate_left
                    · simp only [Act.put, List.setIfInBounds_toArray, List.set_cons_zero, List.set_cons_succ, i64_w, i32_w]; rfl
                    refine pure_ (i := 8) (N := some 149) (v := ?_) (a' := ?_) #[true, true, true, true, false, true, true, true, true, false, false, false] rfl rfl (any_of HT_.out (by kernel_rfl)) (fun _ _ _ h => h) (Or.inl ⟨by rfl, ?_⟩) ?_ ?_
                    rotate_left
                    · intro w'; go_simp; with_reducible rfl
                    rotate_left
                    · simp only [Act.put, List.setIfInBounds_toArray, List.set_cons_zero, List.set_cons_succ, i64_w, i32_w]; rfl
                    refine take_ (i := 4) (N := some 145) (v := ?_) (a' := ?_) #[true, true, true, true, true, true, true, true, true, false, false, false] rfl rfl (take_ofW HT_.out HW_.out (by kernel_rfl)) (fun _ _ _ h => h) (Or.inl ⟨by rfl, ?_⟩) hHeld ?_ ?_
                    rotate_left
                    · rintro w' ⟨s0, s1⟩; go_simp; with_reducible rfl
                    rotate_left
                    · simp only [Act.put, List.setIfInBounds_toArray, List.set_cons_zero, List.set_cons_succ, i64_w, i32_w]; rfl
                    refine take_ (i := 9) (N := some 150) (v := ?_) (a' := ?_) #[true, true, true, true, true, true, true, true, true, true, false, false] rfl rfl (take_ofW HT_.out HW_.out (by kernel_rfl)) (fun _ _ _ h => h) (Or.inl ⟨by rfl, ?_⟩) hHeld ?_ ?_
                    rotate_left
                    · rintro w' ⟨s0, s1⟩; go_simp; with_reducible rfl
                    rotate_left
                    · simp only [Act.put, List.setIfInBounds_toArray, List.set_cons_zero, List.set_cons_succ, i64_w, i32_w]; rfl
                    refine pure_ (i := 10) (N := some 151) (v := ?_) (a' := ?_) #[true, true, true, true, true, true, true, true, true, true, true, false] rfl rfl (any_of HT_.out (by kernel_rfl)) (fun _ _ _ h => h) (Or.inl ⟨by rfl, ?_⟩) ?_ ?_
                    rotate_left
                    · intro w'; go_simp; with_reducible rfl
                    rotate_left
                    · simp only [Act.put, List.setIfInBounds_toArray, List.set_cons_zero, List.set_cons_succ, i64_w, i32_w]; rfl
                    refine pure_ (i := 11) (N := some 152) (v := .bool false) (a' := ?_) #[true, true, true, true, true, true, true, true, true, true, true, true] rfl rfl (any_of HT_.out (by kernel_rfl)) (fun _ _ _ h => h) (Or.inl ⟨by rfl, ?_⟩) ?_ ?_
                    · intro w'; first | (go_simp; done) | (go_simp; omega) | (go_simp; rw [HW64.out]; omega)
                    rotate_left
                    · simp only [Act.put, List.setIfInBounds_toArray, List.set_cons_zero, List.set_cons_succ, i64_w, i32_w]; rfl
                    refine done_ (done_of HT_.out (by kernel_rfl)) ?_
                    have hw2 : WU m (fun d => U d + hits L (doneP G k (j + 1)) d) wl := HW.out.mono fun d => by
                      rw [doneP_snoc HGK.out HX.out, hits_snoc]
                      simp only [Int.toNat_natCast]
                      have e1 := HFX.out
                      have e2 := HFN.out
                      by_cases h1 : fx ≤ d ∧ d < cc
                      · rw [if_pos h1, if_pos (by omega)]; omega
                      · rw [if_neg h1]
                        split <;> omega
                    have HW2 := Aside0.mk hw2
                    have HJ3 := Aside0.mk HJ.out.drew
                    clear hw2 hHeld HT_ HW_ HS31 HW HJ
                    go_wp2
                    go_roundw
                    case rel => exact ⟨j + 1, wl, _, by omega, by go_num, HW2, HOW2, HJ3⟩
                    case measure => simp [intOf]; omega
              · obtain rfl : j = g.length := by omega
                go_wp2
                clear hb0 hcg
                go_roundw
                case rel => exact ⟨k + 1, wl, ol, by omega, by go_num, ⟨by rw [← doneP_next HGK.out]; exact HW.out⟩, ⟨by rw [← doneP_next HGK.out]; exact HOW.out⟩, HJ⟩
                case measure => simp [intOf]; omega
          · obtain rfl : k = G.length := by omega
            have hNA := doneP_all G
            have HW2 : Aside0 (WU m (fun d => U d + hits L G.flatten d) wl) := ⟨by rw [← hNA]; exact HW.out⟩
            have HOW2 : Aside0 (OwnP L.length G G.flatten ol) := ⟨by rw [← hNA]; exact HOW.out⟩
            have hUN := HST.out.u U HU2.out HUB.out
            have HUN := Aside0.mk hUN
            obtain ⟨hd, hd1, hd2, hd3⟩ := HST.out.hd
            have HD1 := Aside0.mk hd1
            have HD2 := Aside0.mk hd2
            have HD3 : Aside0 (nextL L hd L.length = firstL newl) := ⟨hd3⟩
            obtain ⟨WK, hWK⟩ : ∃ WK, WK = wr := ⟨_, rfl⟩
            rw [← hWK] at HJ
            have HFLK := Aside0.mk (Kd.F_now (Kd.F_step HFL0.out (fun q hq _ => HJ.out.keep q hq.1 hq.2)))
            have HFFK := Aside0.mk (Kd.F_now (Kd.F_step HFF0.out (fun q hq _ => HJ.out.keep q hq.1 hq.2)))
            have HFGK := Aside0.mk (Kd.F_now (Kd.F_step HFG0.out (fun q hq _ => HJ.out.keep q hq.1 hq.2)))
            have H11K := Aside0.mk ((HJ.out.keep b11 lo2 lo3).trans H11.out)
            have H12K := Aside0.mk ((HJ.out.keep b12 lo4 lo5).trans H12.out)
            have HRNK : Aside0 (Kd.R k43 43 WK w1.heap.size (fun q => q ≠ bW) (.slice AN newl.length cN) newl) := ⟨Kd.R_lower (Kd.R_mono (Kd.R_step HRN0.out (fun q hq _ => HJ.out.keep q hq.1 hq.2)) (fun q hq => hq.1)) lo7⟩
            have HBWK := Aside0.mk HJ.out.bw
            have HBOK := Aside0.mk HJ.out.bo
            have HBLK := Aside0.mk HJ.out.below
            have hWKs : bW < WK.heap.size := by rw [HJ.out.size]; exact lo9
            have hRx : Kd.R (Kd.int .i64) 3 (WK.alloc (.cells #[] 3)) WK.heap.size (fun _ => True) (.slice (some ⟨WK.heap.size, 0, none⟩) 0 0) (nextL L hd 0) := R_zero _ _ _ _ _ (Nat.le_refl _) trivial
            have HRX := Aside0.mk hRx
            have HBX : Aside0 (Below WK.heap.size WK (WK.alloc (.cells #[] 3))) := ⟨below_alloc (Below.refl _ _) _⟩
            rw [hWK] at HRX HBX
            rw [hWK] at HFLK HFFK HFGK H11K H12K HRNK HBWK HBOK HBLK hWKs
            clear hNA hUN hd1 hd2 hd3 hWK hRx HJ HW HOW hb0 HFL0 HFF0 HFG0 H11 H12 HRN0 WK HU2 HUB
            obtain ⟨WK, hWK⟩ : ∃ WK, WK = wr := ⟨_, rfl⟩
            rw [← hWK] at HRX HBX HFLK HFFK HFGK H11K H12K HRNK HBWK HBOK HBLK hWKs
            have HWKE := Aside0.mk hWK
            clear hWK
            have hb0 := hq_cell H11K.out 0 _ rfl
            simp only [List.getElem_toArray, List.getElem_cons_zero, List.getElem_cons_succ] at hb0
            rw [HWKE.out] at hb0
            go_wp2
            clear hb0
            rw [← HWKE.out]
            go_loopw [19, 18] (fun v19 v18 w' => ∃ (x : Nat), x ≤ L.length ∧ v19 = .int .i64 x ∧ Aside0 (Kd.R (Kd.int .i64) 3 w' WK.heap.size (fun _ => True) v18 (nextL L hd x)) ∧ Aside0 (Below WK.heap.size WK w')) (fun v19 _ _ => L.length - (intOf v19).toNat)
            case atStart => exact ⟨0, by omega, rfl, HRX, HBX⟩
            case round =>
              clear HRX HBX HWKE
              obtain ⟨x, hx, rfl, HRX, HBX⟩ := hrel
              have hnl := nextL_len L hd x
              by_cases hxt : x < L.length
              · have HNS := Aside0.mk (nextL_succ L hd x)
                obtain ⟨adF, rfl, hcF0⟩ := Kd.at_int (Kd.C_below HFFK.out HBX.out) (x : Int) (by omega) (by omega)
                simp only [Int.toNat_natCast] at hcF0
                rw [rd_firstL _ hxt] at hcF0
                have hpos : ∀ p ∈ L, 1 ≤ p.f0 := fun p hp => (HG2.out.pos p hp).1
                have hf0 := fst_nn hpos (x := x) (by omega)
                obtain ⟨fx, hfx⟩ : ∃ fx : Int, fx = fst L x := ⟨_, rfl⟩
                rw [← hfx] at hcF0
                have HFX := Aside0.mk hfx
                have HCF := Aside0.mk hcF0
                have hcO := nums_cell ((HBX.out.block _ (hq_lt HBOK.out)).trans HBOK.out) (c := x) (by rw [HOW2.out.len]; exact hxt)
                have hrel2 := HOW2.out.rel x hxt
                obtain ⟨ov, hov⟩ : ∃ ov, ov = rd ol (x : Int) := ⟨_, rfl⟩
                rw [← hov] at hcO hrel2
                have HRL2 := Aside0.mk hrel2
                have HCO := Aside0.mk hcO
                clear hpos hf0 hfx hcF0 hcO hrel2 hov
                by_cases hov0 : ov = 0
                · have hh : hd x = true := by
                    refine HD1.out x hxt fun g hg hxg => ?_
                    rcases HRL2.out with ⟨_, h⟩ | ⟨_, q, _, h, _⟩
                    · exact h (List.mem_flatten.2 ⟨g, hg, hxg⟩)
                    · omega
                  have HH := Aside0.mk hh
                  have HCO0 : Aside0 (wr.cell? ⟨bO, x, none⟩ = some (.int .i64 0)) := ⟨by rw [← hov0]; exact HCO.out⟩
                  clear hov0 HCO hh
                  go_wp2
                  refine start_ (n := 20) (S := fun w' => w'.cell? ⟨bO, x, none⟩ = some (.int .i64 0)) (ds := []) #[false, false, false, false, false, false, false, false, false, false, false, false, false, false, false, false, false, false, false, false] (by kernel_rfl) rfl rfl ((HCO0.out : _)) (fun hHeld => ?_); refine with_tabW writes5.tab38 writes5.bits38 (fun HT_ HW_ => ?_)
                  refine pure_ (i := 0) (N := some 168) (v := ?_) (a' := ?_) #[true, false, false, false, false, false, false, false, false, false, false, false, false, false, false, false, false, false, false, false] rfl rfl (any_of HT_.out (by kernel_rfl)) (fun _ _ _ h => h) (Or.inl ⟨by rfl, ?_⟩) ?_ ?_
                  rotate_left
                  · intro w'; go_simp; with_reducible rfl
                  rotate_left
                  · simp only [Act.put, List.setIfInBounds_toArray, List.set_cons_zero, List.set_cons_succ, i64_w, i32_w]; rfl
                  refine pure_ (i := 1) (N := some 169) (v := ?_) (a' := ?_) #[true, true, false, false, false, false, false, false, false, false, false, false, false, false, false, false, false, false, false, false] rfl rfl (any_of HT_.out (by kernel_rfl)) (fun _ _ _ h => h) (Or.inl ⟨by rfl, ?_⟩) ?_ ?_
                  rotate_left
                  · intro w'; go_simp; with_reducible rfl
                  rotate_left
                  · simp only [Act.put, List.setIfInBounds_toArray, List.set_cons_zero, List.set_cons_succ, i64_w, i32_w]; rfl
                  refine pure_ (i := 2) (N := some 170) (v := ?_) (a' := ?_) #[true, true, true, false, false, false, false, false, false, false, false, false, false, false, false, false, false, false, false, false] rfl rfl (any_of HT_.out (by kernel_rfl)) (fun _ _ _ h => h) (Or.inl ⟨by rfl, ?_⟩) ?_ ?_
                  rotate_left
                  · intro w'; go_simp; with_reducible rfl
                  rotate_left
                  · simp only [Act.put, List.setIfInBounds_toArray, List.set_cons_zero, List.set_cons_succ, i64_w, i32_w]; rfl
                  refine take_ (i := 3) (N := some 171) (v := ?_) (a' := ?_) #[true, true, true, true, false, false, false, false, false, false, false, false, false, false, false, false, false, false, false, false] rfl rfl (take_ofW HT_.out HW_.out (by kernel_rfl)) (fun _ _ _ h => h) (Or.inl ⟨by rfl, ?_⟩) hHeld ?_ ?_
                  rotate_left
                  · rintro w' s0; go_simp; with_reducible rfl
                  rotate_left
                  · simp only [Act.put, List.setIfInBounds_toArray, List.set_cons_zero, List.set_cons_succ, i64_w, i32_w]; rfl
                  refine pure_ (i := 4) (N := some 172) (v := ?_) (a' := ?_) #[true, true, true, true, true, false, false, false, false, false, false, false, false, false, false, false, false, false, false, false] rfl rfl (any_of HT_.out (by kernel_rfl)) (fun _ _ _ h => h) (Or.inl ⟨by rfl, ?_⟩) ?_ ?_
                  rotate_left
                  · intro w'; go_simp; with_reducible rfl
                  rotate_left
                  · simp only [Act.put, List.setIfInBounds_toArray, List.set_cons_zero, List.set_cons_succ, i64_w, i32_w]; rfl
                  refine pure_ (i := 5) (N := some 173) (v := ?_) (a' := ?_) #[true, true, true, true, true, true, false, false, false, false, false, false, false, false, false, false, false, false, false, false] rfl rfl (any_of HT_.out (by kernel_rfl)) (fun _ _ _ h => h) (Or.inl ⟨by rfl, ?_⟩) ?_ ?_
                  rotate_left
                  · intro w'; go_simp; with_reducible rfl
                  rotate_left
                  · simp only [Act.put, List.setIfInBounds_toArray, List.set_cons_zero, List.set_cons_succ, i64_w, i32_w]; rfl
                  refine pure_ (i := 6) (N := some 174) (v := undef) (a' := ?_) #[true, true, true, true, true, true, true, false, false, false, false, false, false, false, false, false, false, false, false, false] rfl rfl (any_of HT_.out (by kernel_rfl)) (fun _ _ _ h => h) (Or.inr ⟨by rfl, rfl⟩) ?_ ?_
                  rotate_left
                  · simp only [Act.put, List.setIfInBounds_toArray, List.set_cons_zero, List.set_cons_succ, i64_w, i32_w]; rfl
                  refine pure_ (i := 7) (N := some 175) (v := undef) (a' := ?_) #[true, true, true, true, true, true, true, true, false, false, false, false, false, false, false, false, false, false, false, false] rfl rfl (any_of HT_.out (by kernel_rfl)) (fun _ _ _ h => h) (Or.inr ⟨by rfl, rfl⟩) ?_ ?_
                  rotate_left
                  · simp only [Act.put, List.setIfInBounds_toArray, List.set_cons_zero, List.set_cons_succ, i64_w, i32_w]; rfl
                  refine pure_ (i := 8) (N := some 176) (v := undef) (a' := ?_) #[true, true, true, true, true, true, true, true, true, false, false, false, false, false, false, false, false, false, false, false] rfl rfl (any_of HT_.out (by kernel_rfl)) (fun _ _ _ h => h) (Or.inr ⟨by rfl, rfl⟩) ?_ ?_
                  rotate_left
                  · simp only [Act.put, List.setIfInBounds_toArray, List.set_cons_zero, List.set_cons_succ, i64_w, i32_w]; rfl
                  refine pure_ (i := 9) (N := some 177) (v := undef) (a' := ?_) #[true, true, true, true, true, true, true, true, true, true, false, false, false, false, false, false, false, false, false, false] rfl rfl (any_of HT_.out (by kernel_rfl)) (fun _ _ _ h => h) (Or.inr ⟨by rfl, rfl⟩) ?_ ?_
                  rotate_left
                  · simp only [Act.put, List.setIfInBounds_toArray, List.set_cons_zero, List.set_cons_succ, i64_w, i32_w]; rfl
                  refine pure_ (i := 10) (N := some 178) (v := undef) (a' := ?_) #[true, true, true, true, true, true, true, true, true, true, true, false, false, false, false, false, false, false, false, false] rfl rfl (any_of HT_.out (by kernel_rfl)) (fun _ _ _ h => h) (Or.inr ⟨by rfl, rfl⟩) ?_ ?_
                  rotate_left
                  · simp only [Act.put, List.setIfInBounds_toArray, List.set_cons_zero, List.set_cons_succ, i64_w, i32_w]; rfl
                  refine pure_ (i := 11) (N := some 179) (v := undef) (a' := ?_) #[true, true, true, true, true, true, true, true, true, true, true, true, false, false, false, false, false, false, false, false] rfl rfl (any_of HT_.out (by kernel_rfl)) (fun _ _ _ h => h) (Or.inr ⟨by rfl, rfl⟩) ?_ ?_
                  rotate_left
                  · simp only [Act.put, List.setIfInBounds_toArray, List.set_cons_zero, List.set_cons_succ, i64_w, i32_w]; rfl
                  refine pure_ (i := 12) (N := some 180) (v := undef) (a' := ?_) #[true, true, true, true, true, true, true, true, true, true, true, true, true, false, false, false, false, false, false, false] rfl rfl (any_of HT_.out (by kernel_rfl)) (fun _ _ _ h => h) (Or.inr ⟨by rfl, rfl⟩) ?_ ?_
                  rotate_left
                  · simp only [Act.put, List.setIfInBounds_toArray, List.set_cons_zero, List.set_cons_succ, i64_w, i32_w]; rfl
                  refine pure_ (i := 13) (N := some 181) (v := undef) (a' := ?_) #[true, true, true, true, true, true, true, true, true, true, true, true, true, true, false, false, false, false, false, false] rfl rfl (any_of HT_.out (by kernel_rfl)) (fun _ _ _ h => h) (Or.inr ⟨by rfl, rfl⟩) ?_ ?_
                  rotate_left
                  · simp only [Act.put, List.setIfInBounds_toArray, List.set_cons_zero, List.set_cons_succ, i64_w, i32_w]; rfl
                  refine pure_ (i := 14) (N := some 182) (v := undef) (a' := ?_) #[true, true, true, true, true, true, true, true, true, true, true, true, true, true, true, false, false, false, false, false] rfl rfl (any_of HT_.out (by kernel_rfl)) (fun _ _ _ h => h) (Or.inr ⟨by rfl, rfl⟩) ?_ ?_
                  rotate_left
                  · simp only [Act.put, List.setIfInBounds_toArray, List.set_cons_zero, List.set_cons_succ, i64_w, i32_w]; rfl
                  refine pure_ (i := 15) (N := some 183) (v := undef) (a' := ?_) #[true, true, true, true, true, true, true, true, true, true, true, true, true, true, true, true, false, false, false, false] rfl rfl (any_of HT_.out (by kernel_rfl)) (fun _ _ _ h => h) (Or.inr ⟨by rfl, rfl⟩) ?_ ?_
                  rotate_left
                  · simp only [Act.put, List.setIfInBounds_toArray, List.set_cons_zero, List.set_cons_succ, i64_w, i32_w]; rfl
                  refine pure_ (i := 16) (N := some 184) (v := undef) (a' := ?_) #[true, true, true, true, true, true, true, true, true, true, true, true, true, true, true, true, true, false, false, false] rfl rfl (any_of HT_.out (by kernel_rfl)) (fun _ _ _ h => h) (Or.inr ⟨by rfl, rfl⟩) ?_ ?_
                  rotate_left
                  · simp only [Act.put, List.setIfInBounds_toArray, List.set_cons_zero, List.set_cons_succ, i64_w, i32_w]; rfl
                  refine pure_ (i := 17) (N := some 185) (v := undef) (a' := ?_) #[true, true, true, true, true, true, true, true, true, true, true, true, true, true, true, true, true, true, false, false] rfl rfl (any_of HT_.out (by kernel_rfl)) (fun _ _ _ h => h) (Or.inr ⟨by rfl, rfl⟩) ?_ ?_
                  rotate_left
                  · simp only [Act.put, List.setIfInBounds_toArray, List.set_cons_zero, List.set_cons_succ, i64_w, i32_w]; rfl
                  refine pure_ (i := 18) (N := some 186) (v := undef) (a' := ?_) #[true, true, true, true, true, true, true, true, true, true, true, true, true, true, true, true, true, true, true, false] rfl rfl (any_of HT_.out (by kernel_rfl)) (fun _ _ _ h => h) (Or.inr ⟨by rfl, rfl⟩) ?_ ?_
                  rotate_left
                  · simp only [Act.put, List.setIfInBounds_toArray, List.set_cons_zero, List.set_cons_succ, i64_w, i32_w]; rfl
                  refine pure_ (i := 19) (N := some 187) (v := ?_) (a' := ?_) #[true, true, true, true, true, true, true, true, true, true, true, true, true, true, true, true, true, true, true, true] rfl rfl (any_of HT_.out (by kernel_rfl)) (fun _ _ _ h => h) (Or.inl ⟨by rfl, ?_⟩) ?_ ?_
                  rotate_left
                  · intro w'; go_simp; with_reducible rfl
                  rotate_left
                  · simp only [Act.put, List.setIfInBounds_toArray, List.set_cons_zero, List.set_cons_succ, i64_w, i32_w]; rfl
                  refine done_ (done_of HT_.out (by kernel_rfl)) ?_
                  have hbd : Below WK.heap.size WK wr.drew := HBX.out.drew
                  have hrd := Kd.R_drew HRX.out
                  have HBD := Aside0.mk hbd
                  have HRD := Aside0.mk hrd
                  have hcF : wr.drew.cell? (adF.add x) = some (.int .i64 fx) := HCF.out
                  clear hbd hrd hHeld HT_ HW_ HRX HBX
                  go_wp2_with (first
                    | (at_builtin; refine Kd.R_append (Kd.int .i64) (w0 := WK) WK.heap.size rfl (.tmp 188) (.tmp 193) 26 3 (.int .i64 0) 8 rfl Try.underlying26 info3 rfl (by decide) (by decide) _ (nextL L hd x) fx [.int .i64 fx] (fun _ => True) (fun _ => False) rfl rfl ?aP (fun _ hk => hk.elim) ?aF HRD.out HBD.out HBD.out.size ?aL ?_; (case aP => exact rfl); (case aF => exact fun _ _ => trivial); (case aL => omega); intro v2 w6 ho hb hg5 hat; have HRX2 := Aside0.mk ho; have HBX2 := Aside0.mk hb; clear ho hb hg5 hat hcF)
                    | fail)
                  have HRX3 : Aside0 (Kd.R (Kd.int .i64) 3 w6 WK.heap.size (fun _ => True) v2 (nextL L hd (x + 1))) := ⟨by rw [HNS.out, HH.out, if_pos rfl, ← HFX.out]; exact HRX2.out⟩
                  go_roundw
                  case rel => exact ⟨x + 1, by omega, by go_num, HRX3, HBX2⟩
                  case measure => simp [intOf]; omega
                · obtain ⟨q, hq, hovq, hxq⟩ : ∃ q : Nat, q < G.length ∧ ov = (q : Int) + 1 ∧ (x : Int) ∈ G.getD q [] := by
                    rcases HRL2.out with ⟨h, _⟩ | ⟨_, q, h1, h2, h3⟩
                    · exact absurd h hov0
                    · exact ⟨q, h1, h2, h3⟩
                  obtain ⟨gq, hgq⟩ : ∃ g, G[q]? = some g := ⟨_, List.getElem?_eq_getElem hq⟩
                  rw [show G.getD q [] = gq by simp [List.getD_eq_getElem?_getD, hgq]] at hxq
                  have hgm := List.mem_of_getElem? hgq
                  obtain ⟨hg1, hgl, hgb⟩ := HST.out.grp gq hgm
                  have hh := HD2.out x hxt gq hgm hxq
                  obtain ⟨adG, Aq, cq, rfl, hcq, hcql, hCq⟩ := rr_read (Kd.C_below HFGK.out HBX.out) q hq hgq
                  obtain ⟨adq, rfl, hcq0⟩ := Kd.at_int hCq 0 (by omega) (by omega)
                  obtain ⟨hv, hhv⟩ : ∃ hv, hv = gq.getD 0 0 := ⟨_, rfl⟩
                  have hcq1 : wr.cell? adq = some (.int .i64 hv) := by rw [hhv]; exact hcq0
                  rw [← hhv] at hh
                  have HH := Aside0.mk hh
                  have HC0 := Aside0.mk (hq_cell ((HBX.out.block _ (hq_lt H11K.out)).trans H11K.out) 0 _ rfl)
                  have HS38 : Aside0 (wr.cell? ⟨bO, x, none⟩ = some (.int .i64 ((q : Int) + 1)) ∧ wr.cell? ⟨b11, 0, none⟩ = some (.slice (some adG) G.length cG) ∧ wr.cell? (adG.add q) = some (.slice (some adq) gq.length cq) ∧ wr.cell? adq = some (.int .i64 hv)) := ⟨by rw [← hovq]; exact HCO.out, HC0.out, hcq, hcq1⟩
                  clear hgq hxq hgm hgb hh hcq hCq hcq0 hhv hcq1 hovq hov0 HCO HC0
                  go_wp2
                  by_cases hxv : hv = (x : Int)
                  · have HH2 : Aside0 (hd x = true) := ⟨by rw [HH.out]; exact decide_eq_true hxv⟩
                    refine start_ (n := 20) (S := fun w' => w'.cell? ⟨bO, x, none⟩ = some (.int .i64 ((q : Int) + 1)) ∧ w'.cell? ⟨b11, 0, none⟩ = some (.slice (some adG) G.length cG) ∧ w'.cell? (adG.add q) = some (.slice (some adq) gq.length cq) ∧ w'.cell? adq = some (.int .i64 hv)) (ds := []) #[false, false, false, false, false, false, false, false, false, false, false, false, false, false, false, false, false, false, false, false] (by kernel_rfl) rfl rfl ((HS38.out : _)) (fun hHeld => ?_); refine with_tabW writes5.tab38 writes5.bits38 (fun HT_ HW_ => ?_)
                    refine pure_ (i := 0) (N := some 168) (v := ?_) (a' := ?_) #[true, false, false, false, false, false, false, false, false, false, false, false, false, false, false, false, false, false, false, false] rfl rfl (any_of HT_.out (by kernel_rfl)) (fun _ _ _ h => h) (Or.inl ⟨by rfl, ?_⟩) ?_ ?_
                    rotate_left
                    · intro w'; go_simp; with_reducible rfl
                    rotate_left
                    · simp only [Act.put, List.setIfInBounds_toArray, List.set_cons_zero, List.set_cons_succ, i64_w, i32_w]; rfl
                    refine pure_ (i := 1) (N := some 169) (v := ?_) (a' := ?_) #[true, true, false, false, false, false, false, false, false, false, false, false, false, false, false, false, false, false, false, false] rfl rfl (any_of HT_.out (by kernel_rfl)) (fun _ _ _ h => h) (Or.inl ⟨by rfl, ?_⟩) ?_ ?_
                    rotate_left
                    · intro w'; go_simp; with_reducible rfl
                    rotate_left
                    · simp only [Act.put, List.setIfInBounds_toArray, List.set_cons_zero, List.set_cons_succ, i64_w, i32_w]; rfl
                    refine pure_ (i := 2) (N := some 170) (v := ?_) (a' := ?_) #[true, true, true, false, false, false, false, false, false, false, false, false, false, false, false, false, false, false, false, false] rfl rfl (any_of HT_.out (by kernel_rfl)) (fun _ _ _ h => h) (Or.inl ⟨by rfl, ?_⟩) ?_ ?_
                    rotate_left
                    · intro w'; go_simp; with_reducible rfl
                    rotate_left
                    · simp only [Act.put, List.setIfInBounds_toArray, List.set_cons_zero, List.set_cons_succ, i64_w, i32_w]; rfl
                    refine take_ (i := 3) (N := some 171) (v := ?_) (a' := ?_) #[true, true, true, true, false, false, false, false, false, false, false, false, false, false, false, false, false, false, false, false] rfl rfl (take_ofW HT_.out HW_.out (by kernel_rfl)) (fun _ _ _ h => h) (Or.inl ⟨by rfl, ?_⟩) hHeld ?_ ?_
                    rotate_left
                    · rintro w' ⟨s0, s1, s2, s3⟩; go_simp; with_reducible rfl
                    rotate_left
                    · simp only [Act.put, List.setIfInBounds_toArray, List.set_cons_zero, List.set_cons_succ, i64_w, i32_w]; rfl
                    refine pure_ (i := 4) (N := some 172) (v := .bool false) (a' := ?_) #[true, true, true, true, true, false, false, false, false, false, false, false, false, false, false, false, false, false, false, false] rfl rfl (any_of HT_.out (by kernel_rfl)) (fun _ _ _ h => h) (Or.inl ⟨by rfl, ?_⟩) ?_ ?_
                    · intro w'; first | (go_simp; done) | (go_simp; omega)
                    rotate_left
                    · simp only [Act.put, List.setIfInBounds_toArray, List.set_cons_zero, List.set_cons_succ, i64_w, i32_w]; rfl
                    refine pure_ (i := 5) (N := some 173) (v := ?_) (a' := ?_) #[true, true, true, true, true, true, false, false, false, false, false, false, false, false, false, false, false, false, false, false] rfl rfl (any_of HT_.out (by kernel_rfl)) (fun _ _ _ h => h) (Or.inl ⟨by rfl, ?_⟩) ?_ ?_
                    rotate_left
                    · intro w'; go_simp; with_reducible rfl
                    rotate_left
                    · simp only [Act.put, List.setIfInBounds_toArray, List.set_cons_zero, List.set_cons_succ, i64_w, i32_w]; rfl
                    refine pure_ (i := 6) (N := some 174) (v := ?_) (a' := ?_) #[true, true, true, true, true, true, true, false, false, false, false, false, false, false, false, false, false, false, false, false] rfl rfl (any_of HT_.out (by kernel_rfl)) (fun _ _ _ h => h) (Or.inl ⟨by rfl, ?_⟩) ?_ ?_
                    rotate_left
                    · intro w'; go_simp; with_reducible rfl
                    rotate_left
                    · simp only [Act.put, List.setIfInBounds_toArray, List.set_cons_zero, List.set_cons_succ, i64_w, i32_w]; rfl
                    refine pure_ (i := 7) (N := some 175) (v := ?_) (a' := ?_) #[true, true, true, true, true, true, true, true, false, false, false, false, false, false, false, false, false, false, false, false] rfl rfl (any_of HT_.out (by kernel_rfl)) (fun _ _ _ h => h) (Or.inl ⟨by rfl, ?_⟩) ?_ ?_
                    rotate_left
                    · intro w'; go_simp; with_reducible rfl
                    rotate_left
                    · simp only [Act.put, List.setIfInBounds_toArray, List.set_cons_zero, List.set_cons_succ, i64_w, i32_w]; rfl
                    refine pure_ (i := 9) (N := some 177) (v := ?_) (a' := ?_) #[true, true, true, true, true, true, true, true, false, true, false, false, false, false, false, false, false, false, false, false] rfl rfl (any_of HT_.out (by kernel_rfl)) (fun _ _ _ h => h) (Or.inl ⟨by rfl, ?_⟩) ?_ ?_
                    rotate_left
                    · intro w'; go_simp; with_reducible rfl
                    rotate_left
                    · simp only [Act.put, List.setIfInBounds_toArray, List.set_cons_zero, List.set_cons_succ, i64_w, i32_w]; rfl
                    refine pure_ (i := 10) (N := some 178) (v := ?_) (a' := ?_) #[true, true, true, true, true, true, true, true, false, true, true, false, false, false, false, false, false, false, false, false] rfl rfl (any_of HT_.out (by kernel_rfl)) (fun _ _ _ h => h) (Or.inl ⟨by rfl, ?_⟩) ?_ ?_
                    rotate_left
                    · intro w'; go_simp; with_reducible rfl
                    rotate_left
                    · simp only [Act.put, List.setIfInBounds_toArray, List.set_cons_zero, List.set_cons_succ, i64_w, i32_w]; rfl
                    refine pure_ (i := 11) (N := some 179) (v := ?_) (a' := ?_) #[true, true, true, true, true, true, true, true, false, true, true, true, false, false, false, false, false, false, false, false] rfl rfl (any_of HT_.out (by kernel_rfl)) (fun _ _ _ h => h) (Or.inl ⟨by rfl, ?_⟩) ?_ ?_
                    rotate_left
                    · intro w'; go_simp; with_reducible rfl
                    rotate_left
                    · simp only [Act.put, List.setIfInBounds_toArray, List.set_cons_zero, List.set_cons_succ, i64_w, i32_w]; rfl
                    refine take_ (i := 8) (N := some 176) (v := ?_) (a' := ?_) #[true, true, true, true, true, true, true, true, true, true, true, true, false, false, false, false, false, false, false, false] rfl rfl (take_ofW HT_.out HW_.out (by kernel_rfl)) (fun _ _ _ h => h) (Or.inl ⟨by rfl, ?_⟩) hHeld ?_ ?_
                    rotate_left
                    · rintro w' ⟨s0, s1, s2, s3⟩; go_simp; with_reducible rfl
                    rotate_left
                    · simp only [Act.put, List.setIfInBounds_toArray, List.set_cons_zero, List.set_cons_succ, i64_w, i32_w]; rfl
                    refine take_ (i := 12) (N := some 180) (v := ?_) (a' := ?_) #[true, true, true, true, true, true, true, true, true, true, true, true, true, false, false, false, false, false, false, false] rfl rfl (take_ofW HT_.out HW_.out (by kernel_rfl)) (fun _ _ _ h => h) (Or.inl ⟨by rfl, ?_⟩) hHeld ?_ ?_
                    rotate_left
                    · rintro w' ⟨s0, s1, s2, s3⟩; go_simp; with_reducible rfl
                    rotate_left
                    · simp only [Act.put, List.setIfInBounds_toArray, List.set_cons_zero, List.set_cons_succ, i64_w, i32_w]; rfl
                    refine pure_ (i := 13) (N := some 181) (v := .int .i64 (q : Int)) (a' := ?_) #[true, true, true, true, true, true, true, true, true, true, true, true, true, true, false, false, false, false, false, false] rfl rfl (any_of HT_.out (by kernel_rfl)) (fun _ _ _ h => h) (Or.inl ⟨by rfl, ?_⟩) ?_ ?_
                    · intro w'; first | (go_simp; done) | (go_simp; rw [i64_w]; exact w64in _ (by omega)) | (go_simp; exact w64in _ (by omega))
                    rotate_left
                    · simp only [Act.put, List.setIfInBounds_toArray, List.set_cons_zero, List.set_cons_succ, i64_w, i32_w]; rfl
                    refine pure_ (i := 14) (N := some 182) (v := ?_) (a' := ?_) #[true, true, true, true, true, true, true, true, true, true, true, true, true, true, true, false, false, false, false, false] rfl rfl (any_of HT_.out (by kernel_rfl)) (fun _ _ _ h => h) (Or.inl ⟨by rfl, ?_⟩) ?_ ?_
                    rotate_left
                    · intro w'; go_simp; with_reducible rfl
                    rotate_left
                    · simp only [Act.put, List.setIfInBounds_toArray, List.set_cons_zero, List.set_cons_succ, i64_w, i32_w]; rfl
                    refine take_ (i := 15) (N := some 183) (v := ?_) (a' := ?_) #[true, true, true, true, true, true, true, true, true, true, true, true, true, true, true, true, false, false, false, false] rfl rfl (take_ofW HT_.out HW_.out (by kernel_rfl)) (fun _ _ _ h => h) (Or.inl ⟨by rfl, ?_⟩) hHeld ?_ ?_
                    rotate_left
                    · rintro w' ⟨s0, s1, s2, s3⟩; go_simp; with_reducible rfl
                    rotate_left
                    · simp only [Act.put, List.setIfInBounds_toArray, List.set_cons_zero, List.set_cons_succ, i64_w, i32_w]; rfl
                    refine pure_ (i := 16) (N := some 184) (v := ?_) (a' := ?_) #[true, true, true, true, true, true, true, true, true, true, true, true, true, true, true, true, true, false, false, false] rfl rfl (any_of HT_.out (by kernel_rfl)) (fun _ _ _ h => h) (Or.inl ⟨by rfl, ?_⟩) ?_ ?_
                    rotate_left
                    · intro w'; go_simp; with_reducible rfl
                    rotate_left
                    · simp only [Act.put, List.setIfInBounds_toArray, List.set_cons_zero, List.set_cons_succ, i64_w, i32_w]; rfl
                    refine take_ (i := 17) (N := some 185) (v := ?_) (a' := ?_) #[true, true, true, true, true, true, true, true, true, true, true, true, true, true, true, true, true, true, false, false] rfl rfl (take_ofW HT_.out HW_.out (by kernel_rfl)) (fun _ _ _ h => h) (Or.inl ⟨by rfl, ?_⟩) hHeld ?_ ?_
                    rotate_left
                    · rintro w' ⟨s0, s1, s2, s3⟩; go_simp; with_reducible rfl
                    rotate_left
                    · simp only [Act.put, List.setIfInBounds_toArray, List.set_cons_zero, List.set_cons_succ, i64_w, i32_w]; rfl
                    refine pure_ (i := 18) (N := some 186) (v := .bool true) (a' := ?_) #[true, true, true, true, true, true, true, true, true, true, true, true, true, true, true, true, true, true, true, false] rfl rfl (any_of HT_.out (by kernel_rfl)) (fun _ _ _ h => h) (Or.inl ⟨by rfl, ?_⟩) ?_ ?_
                    · intro w'; first | (go_simp; done) | (go_simp; omega)
                    rotate_left
                    · simp only [Act.put, List.setIfInBounds_toArray, List.set_cons_zero, List.set_cons_succ, i64_w, i32_w]; rfl
                    refine pure_ (i := 19) (N := some 187) (v := ?_) (a' := ?_) #[true, true, true, true, true, true, true, true, true, true, true, true, true, true, true, true, true, true, true, true] rfl rfl (any_of HT_.out (by kernel_rfl)) (fun _ _ _ h => h) (Or.inl ⟨by rfl, ?_⟩) ?_ ?_
                    rotate_left
                    · intro w'; go_simp; with_reducible rfl
                    rotate_left
                    · simp only [Act.put, List.setIfInBounds_toArray, List.set_cons_zero, List.set_cons_succ, i64_w, i32_w]; rfl
                    refine done_ (done_of HT_.out (by kernel_rfl)) ?_
                    have hbd : Below WK.heap.size WK wr.drew := HBX.out.drew
                    have hrd := Kd.R_drew HRX.out
                    have HBD := Aside0.mk hbd
                    have HRD := Aside0.mk hrd
                    have hcF : wr.drew.cell? (adF.add x) = some (.int .i64 fx) := HCF.out
                    clear hbd hrd hHeld HT_ HW_ HRX HBX
                    go_wp2_with (first
                      | (at_builtin; refine Kd.R_append (Kd.int .i64) (w0 := WK) WK.heap.size rfl (.tmp 188) (.tmp 193) 26 3 (.int .i64 0) 8 rfl Try.underlying26 info3 rfl (by decide) (by decide) _ (nextL L hd x) fx [.int .i64 fx] (fun _ => True) (fun _ => False) rfl rfl ?aP (fun _ hk => hk.elim) ?aF HRD.out HBD.out HBD.out.size ?aL ?_; (case aP => exact rfl); (case aF => exact fun _ _ => trivial); (case aL => omega); intro v2 w6 ho hb hg5 hat; have HRX2 := Aside0.mk ho; have HBX2 := Aside0.mk hb; clear ho hb hg5 hat hcF)
                      | fail)
                    have HRX3 : Aside0 (Kd.R (Kd.int .i64) 3 w6 WK.heap.size (fun _ => True) v2 (nextL L hd (x + 1))) := ⟨by rw [HNS.out, HH2.out, if_pos rfl, ← HFX.out]; exact HRX2.out⟩
                    go_roundw
                    case rel => exact ⟨x + 1, by omega, by go_num, HRX3, HBX2⟩
                    case measure => simp [intOf]; omega
                  · have HH2 : Aside0 (hd x = false) := ⟨by rw [HH.out]; exact decide_eq_false hxv⟩
                    refine start_ (n := 20) (S := fun w' => w'.cell? ⟨bO, x, none⟩ = some (.int .i64 ((q : Int) + 1)) ∧ w'.cell? ⟨b11, 0, none⟩ = some (.slice (some adG) G.length cG) ∧ w'.cell? (adG.add q) = some (.slice (some adq) gq.length cq) ∧ w'.cell? adq = some (.int .i64 hv)) (ds := []) #[false, false, false, false, false, false, false, false, false, false, false, false, false, false, false, false, false, false, false, false] (by kernel_rfl) rfl rfl ((HS38.out : _)) (fun hHeld => ?_); refine with_tabW writes5.tab38 writes5.bits38 (fun HT_ HW_ => ?_)
                    refine pure_ (i := 0) (N := some 168) (v := ?_) (a' := ?_) #[true, false, false, false, false, false, false, false, false, false, false, false, false, false, false, false, false, false, false, false] rfl rfl (any_of HT_.out (by kernel_rfl)) (fun _ _ _ h => h) (Or.inl ⟨by rfl, ?_⟩) ?_ ?_
                    rotate_left
                    · intro w'; go_simp; with_reducible rfl
                    rotate_left
                    · simp only [Act.put, List.setIfInBounds_toArray, List.set_cons_zero, List.set_cons_succ, i64_w, i32_w]; rfl
                    refine pure_ (i := 1) (N := some 169) (v := ?_) (a' := ?_) #[true, true, false, false, false, false, false, false, false, false, false, false, false, false, false, false, false, false, false, false] rfl rfl (any_of HT_.out (by kernel_rfl)) (fun _ _ _ h => h) (Or.inl ⟨by rfl, ?_⟩) ?_ ?_
                    rotate_left
                    · intro w'; go_simp; with_reducible rfl
                    rotate_left
                    · simp only [Act.put, List.setIfInBounds_toArray, List.set_cons_zero, List.set_cons_succ, i64_w, i32_w]; rfl
                    refine pure_ (i := 2) (N := some 170) (v := ?_) (a' := ?_) #[true, true, true, false, false, false, false, false, false, false, false, false, false, false, false, false, false, false, false, false] rfl rfl (any_of HT_.out (by kernel_rfl)) (fun _ _ _ h => h) (Or.inl ⟨by rfl, ?_⟩) ?_ ?_
                    rotate_left
                    · intro w'; go_simp; with_reducible rfl
                    rotate_left
                    · simp only [Act.put, List.setIfInBounds_toArray, List.set_cons_zero, List.set_cons_succ, i64_w, i32_w]; rfl
                    refine take_ (i := 3) (N := some 171) (v := ?_) (a' := ?_) #[true, true, true, true, false, false, false, false, false, false, false, false, false, false, false, false, false, false, false, false] rfl rfl (take_ofW HT_.out HW_.out (by kernel_rfl)) (fun _ _ _ h => h) (Or.inl ⟨by rfl, ?_⟩) hHeld ?_ ?_
                    rotate_left
                    · rintro w' ⟨s0, s1, s2, s3⟩; go_simp; with_reducible rfl
                    rotate_left
                    · simp only [Act.put, List.setIfInBounds_toArray, List.set_cons_zero, List.set_cons_succ, i64_w, i32_w]; rfl
                    refine pure_ (i := 4) (N := some 172) (v := .bool false) (a' := ?_) #[true, true, true, true, true, false, false, false, false, false, false, false, false, false, false, false, false, false, false, false] rfl rfl (any_of HT_.out (by kernel_rfl)) (fun _ _ _ h => h) (Or.inl ⟨by rfl, ?_⟩) ?_ ?_
                    · intro w'; first | (go_simp; done) | (go_simp; omega)
                    rotate_left
                    · simp only [Act.put, List.setIfInBounds_toArray, List.set_cons_zero, List.set_cons_succ, i64_w, i32_w]; rfl
                    refine pure_ (i := 5) (N := some 173) (v := ?_) (a' := ?_) #[true, true, true, true, true, true, false, false, false, false, false, false, false, false, false, false, false, false, false, false] rfl rfl (any_of HT_.out (by kernel_rfl)) (fun _ _ _ h => h) (Or.inl ⟨by rfl, ?_⟩) ?_ ?_
                    rotate_left
                    · intro w'; go_simp; with_reducible rfl
                    rotate_left
                    · simp only [Act.put, List.setIfInBounds_toArray, List.set_cons_zero, List.set_cons_succ, i64_w, i32_w]; rfl
                    refine pure_ (i := 6) (N := some 174) (v := ?_) (a' := ?_) #[true, true, true, true, true, true, true, false, false, false, false, false, false, false, false, false, false, false, false, false] rfl rfl (any_of HT_.out (by kernel_rfl)) (fun _ _ _ h => h) (Or.inl ⟨by rfl, ?_⟩) ?_ ?_
                    rotate_left
                    · intro w'; go_simp; with_reducible rfl
                    rotate_left
                    · simp only [Act.put, List.setIfInBounds_toArray, List.set_cons_zero, List.set_cons_succ, i64_w, i32_w]; rfl
                    refine pure_ (i := 7) (N := some 175) (v := ?_) (a' := ?_) #[true, true, true, true, true, true, true, true, false, false, false, false, false, false, false, false, false, false, false, false] rfl rfl (any_of HT_.out (by kernel_rfl)) (fun _ _ _ h => h) (Or.inl ⟨by rfl, ?_⟩) ?_ ?_
                    rotate_left
                    · intro w'; go_simp; with_reducible rfl
                    rotate_left
                    · simp only [Act.put, List.setIfInBounds_toArray, List.set_cons_zero, List.set_cons_succ, i64_w, i32_w]; rfl
                    refine pure_ (i := 9) (N := some 177) (v := ?_) (a' := ?_) #[true, true, true, true, true, true, true, true, false, true, false, false, false, false, false, false, false, false, false, false] rfl rfl (any_of HT_.out (by kernel_rfl)) (fun _ _ _ h => h) (Or.inl ⟨by rfl, ?_⟩) ?_ ?_
                    rotate_left
                    · intro w'; go_simp; with_reducible rfl
                    rotate_left
                    · simp only [Act.put, List.setIfInBounds_toArray, List.set_cons_zero, List.set_cons_succ, i64_w, i32_w]; rfl
                    refine pure_ (i := 10) (N := some 178) (v := ?_) (a' := ?_) #[true, true, true, true, true, true, true, true, false, true, true, false, false, false, false, false, false, false, false, false] rfl rfl (any_of HT_.out (by kernel_rfl)) (fun _ _ _ h => h) (Or.inl ⟨by rfl, ?_⟩) ?_ ?_
                    rotate_left
                    · intro w'; go_simp; with_reducible rfl
                    rotate_left
                    · simp only [Act.put, List.setIfInBounds_toArray, List.set_cons_zero, List.set_cons_succ, i64_w, i32_w]; rfl
                    refine pure_ (i := 11) (N := some 179) (v := ?_) (a' := ?_) #[true, true, true, true, true, true, true, true, false, true, true, true, false, false, false, false, false, false, false, false] rfl rfl (any_of HT_.out (by kernel_rfl)) (fun _ _ _ h => h) (Or.inl ⟨by rfl, ?_⟩) ?_ ?_
                    rotate_left
                    · intro w'; go_simp; with_reducible rfl
                    rotate_left
                    · simp only [Act.put, List.setIfInBounds_toArray, List.set_cons_zero, List.set_cons_succ, i64_w, i32_w]; rfl
                    refine take_ (i := 8) (N := some 176) (v := ?_) (a' := ?_) #[true, true, true, true, true, true, true, true, true, true, true, true, false, false, false, false, false, false, false, false] rfl rfl (take_ofW HT_.out HW_.out (by kernel_rfl)) (fun _ _ _ h => h) (Or.inl ⟨by rfl, ?_⟩) hHeld ?_ ?_
                    rotate_left
                    · rintro w' ⟨s0, s1, s2, s3⟩; go_simp; with_reducible rfl
                    rotate_left
                    · simp only [Act.put, List.setIfInBounds_toArray, List.set_cons_zero, List.set_cons_succ, i64_w, i32_w]; rfl
                    refine take_ (i := 12) (N := some 180) (v := ?_) (a' := ?_) #[true, true, true, true, true, true, true, true, true, true, true, true, true, false, false, false, false, false, false, false] rfl rfl (take_ofW HT_.out HW_.out (by kernel_rfl)) (fun _ _ _ h => h) (Or.inl ⟨by rfl, ?_⟩) hHeld ?_ ?_
                    rotate_left
                    · rintro w' ⟨s0, s1, s2, s3⟩; go_simp; with_reducible rfl
                    rotate_left
                    · simp only [Act.put, List.setIfInBounds_toArray, List.set_cons_zero, List.set_cons_succ, i64_w, i32_w]; rfl
                    refine pure_ (i := 13) (N := some 181) (v := .int .i64 (q : Int)) (a' := ?_) #[true, true, true, true, true, true, true, true, true, true, true, true, true, true, false, false, false, false, false, false] rfl rfl (any_of HT_.out (by kernel_rfl)) (fun _ _ _ h => h) (Or.inl ⟨by rfl, ?_⟩) ?_ ?_
                    · intro w'; first | (go_simp; done) | (go_simp; rw [i64_w]; exact w64in _ (by omega)) | (go_simp; exact w64in _ (by omega))
                    rotate_left
                    · simp only [Act.put, List.setIfInBounds_toArray, List.set_cons_zero, List.set_cons_succ, i64_w, i32_w]; rfl
                    refine pure_ (i := 14) (N := some 182) (v := ?_) (a' := ?_) #[true, true, true, true, true, true, true, true, true, true, true, true, true, true, true, false, false, false, false, false] rfl rfl (any_of HT_.out (by kernel_rfl)) (fun _ _ _ h => h) (Or.inl ⟨by rfl, ?_⟩) ?_ ?_
                    rotate_left
                    · intro w'; go_simp; with_reducible rfl
                    rotate_left
                    · simp only [Act.put, List.setIfInBounds_toArray, List.set_cons_zero, List.set_cons_succ, i64_w, i32_w]; rfl
                    refine take_ (i := 15) (N := some 183) (v := ?_) (a' := ?_) #[true, true, true, true, true, true, true, true, true, true, true, true, true, true, true, true, false, false, false, false] rfl rfl (take_ofW HT_.out HW_.out (by kernel_rfl)) (fun _ _ _ h => h) (Or.inl ⟨by rfl, ?_⟩) hHeld ?_ ?_
                    rotate_left
                    · rintro w' ⟨s0, s1, s2, s3⟩; go_simp; with_reducible rfl
                    rotate_left
                    · simp only [Act.put, List.setIfInBounds_toArray, List.set_cons_zero, List.set_cons_succ, i64_w, i32_w]; rfl
                    refine pure_ (i := 16) (N := some 184) (v := ?_) (a' := ?_) #[true, true, true, true, true, true, true, true, true, true, true, true, true, true, true, true, true, false, false, false] rfl rfl (any_of HT_.out (by kernel_rfl)) (fun _ _ _ h => h) (Or.inl ⟨by rfl, ?_⟩) ?_ ?_
                    rotate_left
                    · intro w'; go_simp; with_reducible rfl
                    rotate_left
                    · simp only [Act.put, List.setIfInBounds_toArray, List.set_cons_zero, List.set_cons_succ, i64_w, i32_w]; rfl
                    refine take_ (i := 17) (N := some 185) (v := ?_) (a' := ?_) #[true, true, true, true, true, true, true, true, true, true, true, true, true, true, true, true, true, true, false, false] rfl rfl (take_ofW HT_.out HW_.out (by kernel_rfl)) (fun _ _ _ h => h) (Or.inl ⟨by rfl, ?_⟩) hHeld ?_ ?_
                    rotate_left
                    · rintro w' ⟨s0, s1, s2, s3⟩; go_simp; with_reducible rfl
                    rotate_left
                    · simp only [Act.put, List.setIfInBounds_toArray, List.set_cons_zero, List.set_cons_succ, i64_w, i32_w]; rfl
                    refine pure_ (i := 18) (N := some 186) (v := .bool false) (a' := ?_) #[true, true, true, true, true, true, true, true, true, true, true, true, true, true, true, true, true, true, true, false] rfl rfl (any_of HT_.out (by kernel_rfl)) (fun _ _ _ h => h) (Or.inl ⟨by rfl, ?_⟩) ?_ ?_
                    · intro w'; first | (go_simp; done) | (go_simp; omega)
                    rotate_left
                    · simp only [Act.put, List.setIfInBounds_toArray, List.set_cons_zero, List.set_cons_succ, i64_w, i32_w]; rfl
                    refine pure_ (i := 19) (N := some 187) (v := ?_) (a' := ?_) #[true, true, true, true, true, true, true, true, true, true, true, true, true, true, true, true, true, true, true, true] rfl rfl (any_of HT_.out (by kernel_rfl)) (fun _ _ _ h => h) (Or.inl ⟨by rfl, ?_⟩) ?_ ?_
                    rotate_left
                    · intro w'; go_simp; with_reducible rfl
                    rotate_left
                    · simp only [Act.put, List.setIfInBounds_toArray, List.set_cons_zero, List.set_cons_succ, i64_w, i32_w]; rfl
                    refine done_ (done_of HT_.out (by kernel_rfl)) ?_
                    have HRX2 : Aside0 (Kd.R (Kd.int .i64) 3 wr.drew WK.heap.size (fun _ => True) u18 (nextL L hd (x + 1))) := ⟨by rw [HNS.out, HH2.out]; simp only [Bool.false_eq_true, if_false, List.append_nil]; exact Kd.R_drew HRX.out⟩
                    have HBX2 := Aside0.mk HBX.out.drew
                    clear hHeld HT_ HW_ HRX HBX
                    go_wp2
                    go_roundw
                    case rel => exact ⟨x + 1, by omega, by go_num, HRX2, HBX2⟩
                    case measure => simp [intOf]; omega
              · obtain rfl : x = L.length := by omega
                have hrx : Kd.R (Kd.int .i64) 3 wr w1.heap.size (fun q => q ≠ bW) u18 (firstL newl) := Kd.R_lower (Kd.R_mono (Kd.R_bound (by rw [← HD3.out]; exact HRX.out)) (fun q hq => by have := hq.2.1; omega)) HBLK.out.size
                have HRF3 := Aside0.mk hrx
                obtain ⟨Ax, cx, rfl, _, _⟩ := Kd.R_reads HRF3.out
                rw [firstL_len] at HRF3
                have HRL3 := Aside0.mk (Kd.R_below HRNK.out HBX.out)
                have HBW3 := Aside0.mk ((HBX.out.block _ hWKs).trans HBWK.out)
                have HB3 := Aside0.mk (HBLK.out.trans (HBX.out.mono HBLK.out.size))
                have h121 := hq_cell ((HBX.out.block _ (hq_lt H12K.out)).trans H12K.out) 1 _ rfl
                simp only [List.getElem_toArray, List.getElem_cons_zero, List.getElem_cons_succ] at h121
                have HG3 := Aside0.mk HST.out.good
                have hfl3 := firstL_len newl
                rw [hfl3]
                clear hrx HRX HBX hfl3 hnl
                go_wp2
                clear h121
                go_roundw
                case rel => exact ⟨i + 1, newl, _, wl, by omega, by go_num, HG3, HUN, HW2, HRL3, HRF3, HBW3, HB3⟩
                case measure => simp [intOf]; omega
    · obtain rfl : m = i := by omega
      have hq : ∀ x : Nat, x < m → 0 ≤ rd wl (x : Int) ∧ rd wl (x : Int) ≤ lv m := fun x hx => by
        have h1 := HW.out.2 x hx
        obtain ⟨y, _, y1, y2, y3⟩ := find_iv (l := l) (d := (x : Int)) (a := 0) l.length (Nat.zero_le _) (by show psum _ l 0 ≤ _; rw [psum_zero]; omega) (by rw [fst_len HG.out]; omega)
        have h2 := HU.out.le y y1 x y2 y3
        have h3 := (HG.out.bd (rd_T43 l (y : Int)) (by rw [rd43 y1]; exact List.getElem_mem y1)).1
        have h4 := lv_mono m (rd_T43 l (y : Int)).f0.toNat (by omega)
        omega
      obtain ⟨lm, hlm⟩ : ∃ lm, lm = lv m := ⟨_, rfl⟩
      rw [← hlm] at hq
      have HQ := Aside0.mk hq
      obtain ⟨kb, hkb⟩ : ∃ q, chapmanref36_Level.f q (m : Int) = some lm := by
        obtain ⟨K, hK⟩ := rlevel_ev (m : Int) (by omega)
        exact ⟨K, (hK K (Nat.le_refl _)).trans (by rw [hlm]; rfl)⟩
      have HKB := Aside0.mk hkb
      have HWL := Aside0.mk HW.out.1
      obtain ⟨WF, hWF⟩ : ∃ WF, WF = wr := ⟨_, rfl⟩
      rw [← hWF] at HB HBW
      have HBF : Aside0 (Below WF.heap.size WF wr) := ⟨by rw [hWF]; exact Below.refl _ _⟩
      clear hq hlm hkb hWF HRL HRF HG HU HW
      go_wp2
      go_loopw [20] (fun v20 w' => ∃ (x : Nat), x ≤ m ∧ v20 = .int .i64 x ∧ Aside0 (Below WF.heap.size WF w')) (fun v20 _ => m - (intOf v20).toNat)
      case atStart => exact ⟨0, by omega, rfl, HBF⟩
      case round =>
        clear HBF
        obtain ⟨x, hx, rfl, HBF⟩ := hrel
        by_cases hxt : x < m
        · obtain ⟨q, hqe⟩ : ∃ q, q = rd wl (x : Int) := ⟨_, rfl⟩
          have hql := HQ.out x hxt
          rw [← hqe] at hql
          obtain ⟨hq0, hq1⟩ := hql
          have hcw : ∀ W', Below WF.heap.size WF W' → W'.cell? ⟨bW, x, none⟩ = some (.int .i64 q) := fun W' hb => by
            rw [hqe]
            exact nums_cell ((hb.block _ (hq_lt HBW.out)).trans HBW.out) (by rw [HWL.out]; exact hxt)
          have HCW := Aside0.mk hcw
          clear hqe hcw
          go_wp2
          refine start_ (n := 8) (S := fun w' => w'.cell? ⟨bW, x, none⟩ = some (.int .i64 q)) (ds := []) #[false, false, false, false, false, false, false, false] (by kernel_rfl) rfl rfl (HCW.out wr.drew HBF.out.drew) (fun hHeld => ?_); refine with_tabW writes5.tab47 writes5.bits47 (fun HT_ HW_ => ?_)
          refine pure_ (i := 0) (N := some 209) (v := ?_) (a' := ?_) #[true, false, false, false, false, false, false, false] rfl rfl (any_of HT_.out (by kernel_rfl)) (fun _ _ _ h => h) (Or.inl ⟨by rfl, ?_⟩) ?_ ?_
          rotate_left
          · intro w'; go_simp; with_reducible rfl
          rotate_left
          · simp only [Act.put, List.setIfInBounds_toArray, List.set_cons_zero, List.set_cons_succ, i64_w, i32_w]; rfl
          refine pure_ (i := 1) (N := some 210) (v := ?_) (a' := ?_) #[true, true, false, false, false, false, false, false] rfl rfl (any_of HT_.out (by kernel_rfl)) (fun _ _ _ h => h) (Or.inl ⟨by rfl, ?_⟩) ?_ ?_
          rotate_left
          · intro w'; go_simp; with_reducible rfl
          rotate_left
          · simp only [Act.put, List.setIfInBounds_toArray, List.set_cons_zero, List.set_cons_succ, i64_w, i32_w]; rfl
          refine pure_ (i := 2) (N := some 211) (v := ?_) (a' := ?_) #[true, true, true, false, false, false, false, false] rfl rfl (any_of HT_.out (by kernel_rfl)) (fun _ _ _ h => h) (Or.inl ⟨by rfl, ?_⟩) ?_ ?_
          rotate_left
          · intro w'; go_simp; with_reducible rfl
          rotate_left
          · simp only [Act.put, List.setIfInBounds_toArray, List.set_cons_zero, List.set_cons_succ, i64_w, i32_w]; rfl
          refine pure_ (i := 4) (N := some 213) (v := ?_) (a' := ?_) #[true, true, true, false, true, false, false, false] rfl rfl (any_of HT_.out (by kernel_rfl)) (fun _ _ _ h => h) (Or.inl ⟨by rfl, ?_⟩) ?_ ?_
          rotate_left
          · intro w'; go_simp; with_reducible rfl
          rotate_left
          · simp only [Act.put, List.setIfInBounds_toArray, List.set_cons_zero, List.set_cons_succ, i64_w, i32_w]; rfl
          refine pure_ (i := 5) (N := some 214) (v := ?_) (a' := ?_) #[true, true, true, false, true, true, false, false] rfl rfl (any_of HT_.out (by kernel_rfl)) (fun _ _ _ h => h) (Or.inl ⟨by rfl, ?_⟩) ?_ ?_
          rotate_left
          · intro w'; go_simp; with_reducible rfl
          rotate_left
          · simp only [Act.put, List.setIfInBounds_toArray, List.set_cons_zero, List.set_cons_succ, i64_w, i32_w]; rfl
          refine take_ (i := 3) (N := some 212) (v := ?_) (a' := ?_) #[true, true, true, true, true, true, false, false] rfl rfl (take_ofW HT_.out HW_.out (by kernel_rfl)) (fun _ _ _ h => h) (Or.inl ⟨by rfl, ?_⟩) hHeld ?_ ?_
          rotate_left
          · rintro w' s0; go_simp; with_reducible rfl
          rotate_left
          · simp only [Act.put, List.setIfInBounds_toArray, List.set_cons_zero, List.set_cons_succ, i64_w, i32_w]; rfl
          refine one_ (i := 6) (N := some 215) #[true, true, true, true, true, true, true, false] rfl rfl (one_of HT_.out (by kernel_rfl)) (by decide) (fun K hK => ?_)
          refine goes_ Try.func26 (by kernel_rfl) rfl #[.int .i64 (m : Int)] (by rfl) rfl rfl (by simp only [List.map_toArray, List.map_cons, List.map_nil]; rfl) ?_
          refine (chapmanref36_Level.calls kb (m : Int) lm _ HKB.out).mono ?_
          rintro e w9 ⟨rfl, hd⟩
          have HB9 := Aside0.mk (HBF.out.drew.trans ((drawn_below hd).mono HBF.out.size))
          clear hd
          refine ⟨_, rfl, hK.out _ _ (HCW.out _ HB9.out) (fun hHeld => ?_)⟩
          clear hK K
          refine norm_ (a' := ?_) ?_ ?_
          rotate_left
          · show Act.put _ (some 215) _ = _; simp only [Act.put, List.setIfInBounds_toArray, List.set_cons_zero, List.set_cons_succ, i64_w, i32_w]; rfl
          refine pure_ (i := 7) (N := some 216) (v := .bool false) (a' := ?_) #[true, true, true, true, true, true, true, true] rfl rfl (any_of HT_.out (by kernel_rfl)) (fun _ _ _ h => h) (Or.inl ⟨by rfl, ?_⟩) ?_ ?_
          · intro w'; first | (go_simp; done) | (go_simp; omega)
          rotate_left
          · simp only [Act.put, List.setIfInBounds_toArray, List.set_cons_zero, List.set_cons_succ, i64_w, i32_w]; rfl
          refine done_ (done_of HT_.out (by kernel_rfl)) ?_
          clear HT_ HW_ hHeld HCW HBF
          go_wp2
          go_roundw
          case rel => exact ⟨x + 1, by omega, by go_num, HB9⟩
          case measure => simp [intOf]; omega
        · have HBZ := Aside0.mk (below_step HB1.out (HB.out.trans (HBF.out.mono HB.out.size)))
          go_wp2
          go_ret
          exact ⟨rfl, HBZ.out⟩
end Go.Proofs.Ytckempgpaojljaa.P
end
section
/- Bounds of bytes out of a reading. -/
namespace Go.Proofs.Ytckempgpaojljaa.P
set_option linter.unusedVariables false
set_option linter.unusedSimpArgs false
open Go.RowKit Go.Proofs.YtckempgpaojljaaW.PrintWords Go.Proofs.YtckempgpaojljaaW.PrintLast Go.Proofs.YtckempgpaojljaaW.PrintMore
instance : Inhabited S43 := ⟨z43⟩
theorem u8_bd {n : Int} (h : (Lit.int .u8 n).wf = true) : 0 ≤ n ∧ n ≤ 255 := by
  simp [Lit.wf, IntKind.min, IntKind.max, IntKind.signed, IntKind.bits] at h
  omega
end Go.Proofs.Ytckempgpaojljaa.P
end
section
/- The row of the law CostWrites, out of its walk. -/
namespace Go.Proofs.Ytckempgpaojljaa.costWrites
open Go.ChangeShapes Go.WideShapes Go.ChangeAt Go.RowKit Go.Proofs.YtckempgpaojljaaW.PrintWords Go.Proofs.Ytckempgpaojljaa.P
open Go.ChangeMaps (open_string shut_string)
set_option linter.unusedVariables false
theorem own : ownKnob Try.prog.godebug = none := by kernel_rfl
theorem laidOut : laidOutB Try.prog = true := by kernel_rfl
set_option maxRecDepth 100000 in
theorem lifted (os : Os) (started : os.Started) (H : Type) (enc : TypeId × Value → H) :
    ReturnsInHanded {} Try.checked os 5 .any (Rows.costWritesSpec.pre6 enc Try.prog Try.f5 Rows.costWritesRow.domain false) (Rows.costWritesSpec.post enc Try.prog Try.f5 false true false false) := by
  refine returnsInHanded_of_change_sized (C := Try.checked) own started (by kernel_rfl) Try.func5
    (ChangeSpec.witness6 (enc := enc) (C := Try.checked) false ⟨#[], #[.int .u8 0, .slice none 0 0], []⟩ 8 (by kernel_rfl) (by kernel_rfl) (by kernel_rfl) (by kernel_rfl)) ?_
  intro W base args ds gs before hval0 hW hcnd hsz0 _
  have hval : ∀ (j : Nat) t v, Try.f5.params[j]? = some t → args[j]? = some v → Value.okWide Try.prog W .any base t v := hval0
  have hW' := hW
  obtain ⟨p, q, hA0, hV, rfl, hfz, hnd⟩ := hW
  have hA : DataW.TrodAll enc Try.prog W 0 (fun _ => true) true Try.f5.params.toList args.toList ds p := hA0
  rw [Try.params5] at hA hval
  obtain ⟨v0, vs0, d0, ds0, p0, q0, hargs, rfl, rfl, h0, r0⟩ := trodAll_cons hA
  obtain ⟨v1, vs1, d1, ds1, p1, q1, rfl, rfl, rfl, h1, r1⟩ := trodAll_cons r0
  obtain ⟨rfl, rfl, rfl⟩ := trodAll_nil r1
  obtain rfl : args = #[v0, v1] := by cases args; simp_all
  obtain ⟨rfl, rfl⟩ := trodVars_none hV
  have k0 := h0
  have lt0 : ∀ x ∈ p0, x.block < W.heap.size := by obtain ⟨m, hm⟩ := k0; exact DataW.trod_lt m _ _ _ hm
  obtain ⟨x0, rfl, rfl, rfl, O0⟩ := open_int Try.underlying5 (hval 0 5 v0 rfl rfl) h0
  have k1 := h1
  have lt1 : ∀ x ∈ p1, x.block < W.heap.size := by obtain ⟨m, hm⟩ := k1; exact DataW.trod_lt m _ _ _ hm
  obtain ⟨a1, len1, cap1, rfl⟩ := okWide_slice Try.underlying48 (hval 1 48 v1 rfl rfl)
  obtain ⟨l1, ⟨A1, c1, e1, L1, C1⟩, O1⟩ := open_at (opens_slice (d := Kd.int .u8) Try.underlying48 (opens_int Try.underlying5) (by kernel_rfl)) h1
  have e1_ : (Value.slice a1 len1 cap1) = .slice A1 l1.length c1 := List.head_eq_of_cons_eq e1
  injection e1_ with e1A e1L e1C
  subst e1A e1L e1C
  clear hA0 hval0 hsz0
  refine (writes5 x0 a1 cap1 l1 W (u8_bd O0) C1 L1 (fun n hn => u8_bd (O1.1 n hn))).mono fun e W' ⟨he, bel⟩ => ?_
  subst he
  exact ⟨_, rfl, _, _, _, [], _, [], hW', trodAll_mk1 (shut_bool Try.underlying4 _), (trodAll_cons_mk (shut_int Try.underlying5 O0) (trodAll_cons_mk (Below.trod laidOut (by kernel_rfl) (of_decide_eq_true (by kernel_rfl)) k1 bel lt1) trodAll_mk0)), rfl, bel.frame _, fun h => by cases h⟩
theorem over : Rows.costWritesRow.holds Try.pinned (OpenSpec.ofChange Rows.costWritesSpec) :=
  OpenClaim.holds_of_wide 5 Try.f5 rfl rfl rfl rfl rfl rfl rfl ⟨rfl, rfl, rfl, rfl, rfl⟩ rfl rfl rfl rfl rfl (by kernel_rfl) Try.func5 (by kernel_rfl)
    (of_decide_eq_true (by kernel_rfl)) (by unfold Func.isWrapper; first | (rw [if_pos (by decide +kernel)]; kernel_rfl) | (rw [if_neg (by decide +kernel)]; exact ⟨rfl, rfl⟩))
    (fun os started H enc _ => lifted os started H enc)
theorem proved : Rows.CostWritesSaid := over
end Go.Proofs.Ytckempgpaojljaa.costWrites
namespace Go.Proofs.Ytckempgpaojljaa
theorem costWrites_holds : Rows.CostWritesSaid := costWrites.proved
end Go.Proofs.Ytckempgpaojljaa
end
