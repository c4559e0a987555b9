/- Parts of a proof, laid together: TSh, THd3, THd4, THe1, THe2, THe3, THe4, THe5, THe6. -/
import Derived.Shelf.Sort.Plain
import Derived.Test.YtckempgpaojljaaProg
import Derived.Test.YtckempgpaojljaaMq1
import Derived.Lib.SliceRun
import Derived.Laws.Cover3
section
/- slices.Sort over numbers, out of the kit's shelf in plain words (laid by lay-shelf and lay-plain): what the call does to a row that holds the numbers. -/
namespace Go.Proofs
open Go.Shelf
def Try.lays189_ren : Go.Shelf.Ren := ⟨fun | 189 => 45 | 125 => 65 | 257 => 64 | 128 => 77 | 129 => 78 | 294 => 68 | 295 => 69 | 296 => 70 | 297 => 71 | 298 => 72 | 299 => 73 | 216 => 74 | 300 => 75 | 301 => 76 | 328 => 79 | 329 => 80 | 330 => 81 | 331 => 82 | 332 => 83 | 215 => 84 | 343 => 85 | n => n, fun | 28 => 26 | 3 => 3 | 46 => 102 | 0 => 0 | 51 => 115 | 53 => 117 | 4 => 4 | 183 => 107 | 182 => 106 | 131 => 112 | 5 => 5 | 9 => 9 | 218 => 118 | 222 => 122 | 228 => 124 | 229 => 125 | n => n, fun | n => n⟩
theorem Try.lays189 : Go.Proofs.Lays.n189 Try.prog Try.lays189_ren := {
  mixed := by kernel_rfl
  f125 := Try.func65.trans (congrArg some (by kernel_rfl))
  f128 := Try.func77.trans (congrArg some (by kernel_rfl))
  f129 := Try.func78.trans (congrArg some (by kernel_rfl))
  f189 := Try.func45.trans (congrArg some (by kernel_rfl))
  f215 := Try.func84.trans (congrArg some (by kernel_rfl))
  f216 := Try.func74.trans (congrArg some (by kernel_rfl))
  f257 := Try.func64.trans (congrArg some (by kernel_rfl))
  f294 := Try.func68.trans (congrArg some (by kernel_rfl))
  f295 := Try.func69.trans (congrArg some (by kernel_rfl))
  f296 := Try.func70.trans (congrArg some (by kernel_rfl))
  f297 := Try.func71.trans (congrArg some (by kernel_rfl))
  f298 := Try.func72.trans (congrArg some (by kernel_rfl))
  f299 := Try.func73.trans (congrArg some (by kernel_rfl))
  f300 := Try.func75.trans (congrArg some (by kernel_rfl))
  f301 := Try.func76.trans (congrArg some (by kernel_rfl))
  f328 := Try.func79.trans (congrArg some (by kernel_rfl))
  f329 := Try.func80.trans (congrArg some (by kernel_rfl))
  f330 := Try.func81.trans (congrArg some (by kernel_rfl))
  f331 := Try.func82.trans (congrArg some (by kernel_rfl))
  f332 := Try.func83.trans (congrArg some (by kernel_rfl))
  f343 := Try.func85.trans (congrArg some (by kernel_rfl))
  t0 := Try.underlying0
  a0 := Try.isAgg0
  z0 := Try.sizeOf0
  v0 := Try.zeroValue0
  t3 := Try.underlying3
  a3 := Try.isAgg3
  z3 := Try.sizeOf3
  v3 := Try.zeroValue3
  t4 := Try.underlying4
  a4 := Try.isAgg4
  z4 := Try.sizeOf4
  v4 := Try.zeroValue4
  t5 := Try.underlying5
  a5 := Try.isAgg5
  z5 := Try.sizeOf5
  v5 := Try.zeroValue5
  t9 := Try.underlying9
  a9 := Try.isAgg9
  z9 := Try.sizeOf9
  v9 := Try.zeroValue9
  t28 := Try.underlying26
  a28 := Try.isAgg26
  z28 := Try.sizeOf26
  v28 := Try.zeroValue26
  t46 := Try.underlying102
  a46 := Try.isAgg102
  z46 := Try.sizeOf102
  v46 := Try.zeroValue102
  t51 := Try.underlying115
  a51 := Try.isAgg115
  z51 := Try.sizeOf115
  v51 := Try.zeroValue115
  t53 := Try.underlying117
  a53 := Try.isAgg117
  z53 := Try.sizeOf117
  v53 := Try.zeroValue117
  t131 := Try.underlying112
  a131 := Try.isAgg112
  z131 := Try.sizeOf112
  v131 := Try.zeroValue112
  t182 := Try.underlying106
  a182 := Try.isAgg106
  z182 := Try.sizeOf106
  v182 := Try.zeroValue106
  t183 := Try.underlying107
  a183 := Try.isAgg107
  z183 := Try.sizeOf107
  v183 := Try.zeroValue107
  t218 := Try.underlying118
  a218 := Try.isAgg118
  z218 := Try.sizeOf118
  v218 := Try.zeroValue118
  t222 := Try.underlying122
  a222 := Try.isAgg122
  z222 := Try.sizeOf122
  v222 := Try.zeroValue122
  t228 := Try.underlying124
  a228 := Try.isAgg124
  z228 := Try.sizeOf124
  v228 := Try.zeroValue124
  t229 := Try.underlying125
  a229 := Try.isAgg125
  z229 := Try.sizeOf125
  v229 := Try.zeroValue125 }
open Go.Sort Go.RowKit in
theorem Try.slices_Sort_int (blk off cap : Nat) (zs : List Int) (w : World) (hH : Holds (Value.int .i64) w blk off zs.toArray) (hblk : blk < w.heap.size) (hsz : zs.length < 4611686018427387904) :
    Calls Try.prog 45 #[.slice (some ⟨blk, off, none⟩) zs.length cap] w fun e w' =>
      e = .returned (.tuple #[]) ∧ ∃ n os, w' = grow (putRow (Value.int .i64) (Sort.ahead w n) blk off (zs.mergeSort fun x y => decide (x ≤ y)).toArray) os := Any.slices_Sort_int Try.lays189 blk off cap zs w hH hblk hsz
end Go.Proofs
end
section
/- The contract of slices.Sort on a row of the call's own: the row holds the sorted numbers, nothing else has changed. -/
namespace Go.Proofs.Ytckempgpaojljaa.P
set_option linter.unusedVariables false
set_option linter.unusedSimpArgs false
open Go.RowKit Go.Proofs.YtckempgpaojljaaW.PrintWords Go.Proofs.YtckempgpaojljaaW.PrintLast Go.Proofs.YtckempgpaojljaaW.PrintMore
def sortI (l : List Int) : List Int := l.mergeSort fun x y => decide (x ≤ y)
theorem sortI_length (l : List Int) : (sortI l).length = l.length := List.length_mergeSort _
theorem sort45 (v : Value) (xs : List Int) (n0 : Nat) (w : World) (hr : Kd.R (Kd.int .i64) 3 w n0 (fun k => v.ownBlock = some k) v xs) (h : 0 < xs.length) (hs : xs.length ≤ 1000000) :
    Calls Try.prog 45 #[v] w fun e w' => e = .returned (.tuple #[]) ∧ w.grownBy w' v.ownBlock ∧ Kd.R (Kd.int .i64) 3 w' n0 (fun k => v.ownBlock = some k) v (sortI xs) := by
  obtain ⟨_, inner, ho, hrep⟩ := hr
  obtain ⟨g, cap, rfl, hg0, hgl⟩ := ho.form h
  have hin : ∀ (j : Nat) (h : j < xs.length), inner[j]? = some (.int .i64 xs[j]) := fun j hj => by
    have h1 := hrep.2 j xs[j] (List.getElem?_eq_getElem hj)
    have h2 : ((inner.drop (j * 1)).take 1) = [.int .i64 xs[j]] := h1
    rw [Nat.mul_one] at h2
    have h3 := congrArg (fun l => l[0]?) h2
    simpa using h3
  have hown := ho
  rcases ho.2 with ⟨e, _⟩ | ⟨g', cap', cur, e, hb, hh, hn, hm, hcur⟩
  · cases e
  · injection e with e1 _ e2
    injection e1 with e1
    injection e1 with e1
    subst e1
    subst e2
    have hH : Go.Sort.Holds (Value.int .i64) w g 0 xs.toArray := fun j hj => by
      have hj' : j < xs.length := by simpa using hj
      refine ⟨?_, ?_⟩
      · have := ho.cells (g := g) rfl j _ (hin j hj')
        rw [add_plain] at this
        rw [Nat.zero_add, this]
        simp [hj']
      · rw [Nat.zero_add]
        exact blk_free hh j
    refine (Try.slices_Sort_int g 0 cap xs w hH hgl (by omega)).mono ?_
    rintro e w' ⟨rfl, n, os, rfl⟩
    rw [show (xs.mergeSort fun x y => decide (x ≤ y)) = sortI xs from rfl]
    have hheap : ∀ k, k < w.heap.size → (Go.Sort.grow (Go.Sort.putRow (Value.int .i64) (Go.Sort.ahead w n) g 0 (sortI xs).toArray) os).heap[k]? = if k = g then some (.cells (Go.Sort.putCells (Value.int .i64) 0 (sortI xs).toArray cur) 3 (0, 0)) else w.heap[k]? := fun k hk => by
      show ((w.heap.modify g _) ++ os)[k]? = _
      rw [Array.getElem?_append_left (by simpa using hk), Array.getElem?_modify]
      by_cases e : k = g
      · subst e
        rw [if_pos rfl, if_pos rfl, hh]
        rfl
      · rw [if_neg (fun e' => e e'.symm), if_neg e]
    have hsz : w.heap.size ≤ (Go.Sort.grow (Go.Sort.putRow (Value.int .i64) (Go.Sort.ahead w n) g 0 (sortI xs).toArray) os).heap.size := by
      show w.heap.size ≤ ((w.heap.modify g _) ++ os).size
      simp
    refine ⟨rfl, ⟨rfl, rfl, rfl, hsz, fun k hk hne => ?_⟩, fun _ hk => hk, nums .i64 (sortI xs), ⟨by simp [nums, Kd.int, Kd.scalar], .inr ⟨g, cap, Go.Sort.putCells (Value.int .i64) 0 (sortI xs).toArray cur, by rw [sortI_length], hg0, ?_, by rw [sortI_length]; exact hn, hm, by rw [← hcur.1]; simp [Go.Sort.putCells], ?_⟩⟩, ?_⟩
    · rw [hheap k hk, if_neg (fun e => hne (by simp [Value.ownBlock, e]))]
    · rw [hheap g hgl, if_pos rfl]
    · have hc1 := hcur.1
      have hz : (Kd.int .i64).sz = 1 := rfl
      rw [hz] at hc1 ⊢
      apply List.ext_getElem?
      intro j
      rw [List.getElem?_take, Nat.mul_one]
      by_cases hj : j < (sortI xs).length
      · rw [if_pos hj]
        have hjc : j < cur.size := by rw [sortI_length] at hj; omega
        simp [Go.Sort.putCells, nums, hj, hjc]
      · rw [if_neg hj]
        exact (List.getElem?_eq_none (by rw [nums_length]; omega)).symm
    · refine ⟨by simp [nums, Kd.int, Kd.scalar], fun j p hp => ?_⟩
      show ((nums .i64 (sortI xs)).drop (j * 1)).take 1 = [.int .i64 p]
      have hj := (List.getElem?_eq_some_iff.1 hp).1
      rw [Nat.mul_one]
      apply List.ext_getElem?
      intro q
      rw [List.getElem?_take, List.getElem?_drop]
      cases q with
      | zero => simp [nums, hp]
      | succ q => simp
end Go.Proofs.Ytckempgpaojljaa.P
end
section
/- The contract of cost.Choose: the groups that are chosen, as a plain function of the pieces. -/
namespace Go.Proofs.Ytckempgpaojljaa.P
set_option linter.unusedVariables false
set_option linter.unusedSimpArgs false
open Go.RowKit Go.Proofs.YtckempgpaojljaaW.PrintWords Go.Proofs.YtckempgpaojljaaW.PrintLast Go.Proofs.YtckempgpaojljaaW.PrintMore
def iterC : Nat → List (List Int × Int) → List (List Int × Int)
  | 0, cs => cs
  | n + 1, cs => match stepC cs with
    | none => cs
    | some cs' => iterC n cs'
def groupsC (cs : List (List Int × Int)) : List (List Int) := (cs.filter fun c => decide (1 < c.1.length)).map fun c => sortI c.1
def choose (l : List S59) : List (List Int) := groupsC (iterC l.length (startC l))
theorem stepC_ok {cs cs' : List (List Int × Int)} (h : OkC cs) (hs : stepC cs = some cs') : OkC cs' ∧ cs'.length + 3 = cs.length := by
  unfold stepC at hs
  split at hs
  · exact absurd hs (by simp)
  · generalize hL : idx4 (cntC cs) = L at hs
    obtain ⟨P, hP⟩ : ∃ P, P = (posC cs L cs.length).take 4 := ⟨_, rfl⟩
    rw [← hP] at hs
    have hso : P.Pairwise (· < ·) := by rw [hP]; exact (posC_sorted cs L cs.length).sublist (List.take_sublist _ _)
    have hmem : ∀ i, i ∈ P → i < cs.length := fun i hi => by
      rw [hP] at hi
      exact (posC_mem (List.mem_of_mem_take hi)).1
    match P, hs with
    | [i0, i1, i2, i3], hs =>
      injection hs with hs
      simp only [List.pairwise_cons, List.mem_cons, List.not_mem_nil, or_false, forall_eq_or_imp, forall_eq] at hso
      have h3 := hmem i3 (by simp)
      obtain ⟨⟨a1, a2, a3⟩, ⟨b1, b2⟩, b3, _⟩ := hso
      have l1 := mergeC_length cs i0 i1 (by omega)
      have k1 := h.merge i0 i1 (by omega) (by omega)
      have l2 := mergeC_length (mergeC cs i0 i1) i0 (i2 - 1) (by omega)
      have k2 := k1.merge i0 (i2 - 1) (by omega) (by omega)
      have l3 := mergeC_length (mergeC (mergeC cs i0 i1) i0 (i2 - 1)) i0 (i3 - 2) (by omega)
      have k3 := k2.merge i0 (i3 - 2) (by omega) (by omega)
      rw [← hs]
      exact ⟨k3, by omega⟩
theorem startC_ok {l : List S59} (h : validL l = true) : OkC (startC l) := by
  simp only [validL, Bool.and_eq_true, decide_eq_true_eq, List.all_eq_true] at h
  obtain ⟨hl, hp⟩ := h
  have hb : ∀ p ∈ l, 1 ≤ p.f0 ∧ p.f0 ≤ 5994 := fun p hp' => by
    have := hp p hp'
    simp [oddP] at this
    omega
  have hs : ∀ (l : List S59) (k : Nat), (∀ p ∈ l, 1 ≤ p.f0 ∧ p.f0 ≤ 5994) → ((l.zipIdx k).map fun q => q.1.f0).sum ≤ 5994 * l.length ∧ ((l.zipIdx k).map fun q => (([(q.2 : Int)] : List Int).length : Int)).sum = l.length := by
    intro l
    induction l with
    | nil => intro k _; simp
    | cons x l ih =>
      intro k hl
      obtain ⟨h1, h2⟩ := ih (k + 1) (fun p hp => hl p (by simp [hp]))
      have hx := hl x (by simp)
      simp only [List.zipIdx_cons, List.map_cons, List.sum_cons, List.length_cons, List.length_nil]
      simp only [List.length_cons, List.length_nil] at h2
      constructor
      · omega
      · rw [h2]; omega
  obtain ⟨h1, h2⟩ := hs l 0 hb
  refine ⟨fun c hc => ?_, by simp [startC]; omega, ?_, ?_⟩
  · simp only [startC, List.mem_map] at hc
    obtain ⟨q, hq, rfl⟩ := hc
    exact (hb _ (List.fst_mem_of_mem_zipIdx hq)).1
  · rw [startC, List.map_map]
    show ((l.zipIdx).map fun q => q.1.f0).sum ≤ _
    omega
  · rw [startC, List.map_map]
    show ((l.zipIdx).map fun q => (([(q.2 : Int)] : List Int).length : Int)).sum ≤ _
    omega
def ChPost (w : World) (r1 : List (List Int)) (r2 : Int) (e : Ending) (w' : World) : Prop := ∃ v, e = .returned (.tuple #[v, .int .i64 r2]) ∧ Kd.R (Kd.slice 3 (Kd.int .i64)) 26 w' w.heap.size (fun _ => True) v r1 ∧ Below w.heap.size w w'
theorem choose_bad (A : Option Addr) (c : Nat) (l : List S59) (w : World) (hr : Kd.C k59 w A l.length l) (hc : l.length ≤ c) (hv : validL l = false) : Calls Try.prog 33 #[.slice A l.length c] w (ChPost w [] 1) := by
  have hcon := valid11 A c l w hr hc
  rw [hv] at hcon
  have HCON := Aside0.mk hcon
  clear hcon hr hv
  go_enter Try.func33, Try.ntmps33
  go_wp2_with (fail)
  refine HCON.out.mono ?_
  rintro e w1 ⟨rfl, hb⟩
  go_wp2
  go_ret2
  exact ⟨_, rfl, Kd.R_nil _ _ _ _ _, hb⟩
structure ChInv (g n0 : Nat) (w : World) (fin : List (List Int × Int)) (k : Nat) (W : World) : Prop where
  nodes : ∃ xs, LL W n0 xs ∧ W.heap[g]? = some (.cells #[.pointer (ptr xs 0)] 79 (0, 0)) ∧ OkC (prs xs) ∧ iterC k (prs xs) = fin ∧ (prs xs).length ≤ k
  below : Below n0 w W
structure OutInv (n0 : Nat) (w1 : World) (ys : List Nd) (k : Nat) (v6 : Value) (W : World) : Prop where
  lo : ∀ (i : Nat) (x : Nd), ys[i]? = some x → n0 ≤ x.b
  blk : ∀ (i : Nat) (x : Nd), ys[i]? = some x → W.heap[x.b]? = some (.cells #[x.v, .int .i64 x.nm, .pointer (ptr ys (i + 1))] 81 (0, 0))
  row : ∀ (i : Nat) (x : Nd), k ≤ i → ys[i]? = some x → Kd.R (Kd.int .i64) 3 W n0 (fun b => x.v.ownBlock = some b) x.v x.at_
  ne : ∀ (i j : Nat) (x y : Nd), i < j → ys[i]? = some x → ys[j]? = some y → x.b ≠ y.b ∧ NeRow x.v y.v
  out : Kd.R (Kd.slice 3 (Kd.int .i64)) 26 W n0 (fun b => ∀ (j : Nat) (x : Nd), k ≤ j → ys[j]? = some x → x.v.ownBlock ≠ some b) v6 (groupsC ((prs ys).take k))
  below : Below n0 w1 W
theorem groups_succ {ys : List Nd} {k : Nat} {x : Nd} (hx : ys[k]? = some x) : groupsC ((prs ys).take (k + 1)) = groupsC ((prs ys).take k) ++ if 1 < x.at_.length then [sortI x.at_] else [] := by
  have h : (prs ys)[k]? = some (x.at_, x.nm) := by simp [prs, hx]
  unfold groupsC
  rw [List.take_add_one, h, Option.toList_some, List.filter_append, List.map_append, filter_one]
  by_cases e : 1 < x.at_.length
  · rw [if_pos e, if_pos (decide_eq_true e)]; rfl
  · rw [if_neg e, if_neg (by simpa using e)]; rfl
theorem groups_len (cs : List (List Int × Int)) : (groupsC cs).length ≤ cs.length := by
  unfold groupsC
  rw [List.length_map]
  exact List.length_filter_le _ _
set_option maxRecDepth 100000 in
set_option maxHeartbeats 4000000 in
theorem choose_good (A : Option Addr) (c : Nat) (l : List S59) (w : World) (hr : Kd.C k59 w A l.length l) (hc : l.length ≤ c) (hv : validL l = true) : Calls Try.prog 33 #[.slice A l.length c] w (ChPost w (choose l) 0) := by
  have hcon := valid11 A c l w hr hc
  rw [hv] at hcon
  have HCON := Aside0.mk hcon
  have HV := Aside0.mk hv
  have HR := Aside0.mk hr
  clear hcon hr hv
  go_enter Try.func33, Try.ntmps33
  go_wp2_with (fail)
  refine HCON.out.mono ?_
  rintro e w1 ⟨rfl, hb⟩
  have HB1 := Aside0.mk hb
  clear hb
  go_wp2_with (fail)
  refine (start43.calls A c l w1 (Kd.C_below HR.out HB1.out) hc).mono ?_
  rintro e w2 ⟨g, xs, rfl, hg, hgp, hL, hprs, hb⟩
  have h0 : ChInv g w1.heap.size w1 (iterC l.length (startC l)) l.length w2 := ⟨⟨xs, hL, hgp, by unfold prs; rw [hprs]; exact startC_ok HV.out, by unfold prs; rw [hprs], by unfold prs; rw [hprs]; simp [startC]⟩, hb⟩
  have H0 := Aside0.mk h0
  have hg0 : w1.heap.size ≤ g := hg
  clear hgp hL hprs hb h0 hg
  go_wp2
  go_loopg [16] l.length (fun gk v16 w' => Aside0 (ChInv g w1.heap.size w1 (iterC l.length (startC l)) gk w'))
  case atStart => exact H0
  case round =>
    have H := hrel
    clear hrel
    obtain ⟨xs, hL, hgp, hok, hit, hle⟩ := H.out.nodes
    have HL := Aside0.mk hL
    have HGP := Aside0.mk hgp
    have HOK := Aside0.mk hok
    have HIT := Aside0.mk hit
    have HLE := Aside0.mk hle
    clear hL hgp hok hit hle
    go_wp2_with (fail)
    refine (step44.calls g xs w1.heap.size _ HL.out HOK.out HGP.out hg0).mono ?_
    rintro e w3 ⟨r, ys, rfl, hL, hgp, hb, hst⟩
    have HB3 := Aside0.mk (H.out.below.trans hb)
    have HL3 := Aside0.mk hL
    have HGP3 := Aside0.mk hgp
    have HST := Aside0.mk hst
    clear hL hgp hb hst
    cases r with
    | true =>
      have hst := HST.out
      cases hcs : stepC (prs xs) with
      | none => rw [hcs] at hst; exact absurd hst.1 (by decide)
      | some cs =>
        rw [hcs] at hst
        obtain ⟨hok', hlen'⟩ := stepC_ok HOK.out hcs
        obtain ⟨gk, rfl⟩ : ∃ m, gk = m + 1 := ⟨gk - 1, by have := HLE.out; omega⟩
        have hn : ChInv g w1.heap.size w1 (iterC l.length (startC l)) gk w3 := by
          refine ⟨⟨ys, HL3.out, HGP3.out, by rw [hst.2]; exact hok', ?_, ?_⟩, HB3.out⟩
          · rw [hst.2, ← HIT.out]
            simp [iterC, hcs]
          · rw [hst.2]
            have := HLE.out
            omega
        have HN := Aside0.mk hn
        clear hst hcs hok' hlen' hn
        go_wp2
        go_roundg gk
        case measure => omega
        case rel => exact HN
    | false =>
      have hst := HST.out
      cases hcs : stepC (prs xs) with
      | some cs => rw [hcs] at hst; exact absurd hst.1 (by decide)
      | none =>
        rw [hcs] at hst
        have hfin : prs ys = iterC l.length (startC l) := by
          rw [hst.2, ← HIT.out]
          cases gk with
          | zero => rfl
          | succ k => simp [iterC, hcs]
        have HF := Aside0.mk hfin
        have hok2 : OkC (prs ys) := by rw [hst.2]; exact HOK.out
        have HOK2 := Aside0.mk hok2
        have hcg := hq_cell HGP3.out 0 _ rfl
        clear hst hcs hfin hok2
        go_wp2
        have hcntl : ys.length ≤ 1000 := by have := HOK2.out.num; rw [prs_length] at this; exact this
        have hi0 : OutInv w1.heap.size w1 ys 0 (.slice none 0 0) w3 := ⟨HL3.out.lo, HL3.out.blk, fun i x _ hx => HL3.out.row i x hx, HL3.out.ne, Kd.R_nil _ _ _ _ _, HB3.out⟩
        have HI0 := Aside0.mk hi0
        clear hi0 hcg H HL HGP HOK HIT HLE HL3 HGP3 HB3 HST H0
        go_loopg [7, 6] ys.length (fun gk v7 v6 w' => ∃ k : Nat, Aside0 (k + gk = ys.length) ∧ v7 = .pointer (ptr ys k) ∧ Aside0 (OutInv w1.heap.size w1 ys k v6 w'))
        case atStart => exact ⟨0, ⟨by omega⟩, rfl, HI0⟩
        case round =>
          clear HI0
          obtain ⟨k, HK, rfl, HI⟩ := hrel
          by_cases hlt : k < ys.length
          · obtain ⟨gk, rfl⟩ : ∃ m, gk = m + 1 := ⟨gk - 1, by have := HK.out; omega⟩
            obtain ⟨x, hx⟩ : ∃ x, ys[k]? = some x := ⟨_, List.getElem?_eq_getElem hlt⟩
            rw [ptr_at hx]
            have HX := Aside0.mk hx
            have hrow := HI.out.row k x (Nat.le_refl _) hx
            obtain ⟨A0, c0, ex, lx, _⟩ := row_int hrow
            have hblk := HI.out.blk k x hx
            have hcell := hq_cell hblk 0 _ rfl
            have hcell2 := hq_cell hblk 2 _ rfl
            simp only [List.getElem_toArray, List.getElem_cons_zero] at hcell
            have hxl : x.at_.length ≤ 1000 := by
              have h1 := HOK2.out.sumL
              have h2 := sum_ge ((prs ys).map fun c => (c.1.length : Int)) (by
                intro z hz
                obtain ⟨c, hc, rfl⟩ := List.mem_map.1 hz
                omega) k (by simp [prs_length]; exact hlt)
              have e : ((prs ys).map fun c => (c.1.length : Int)).getD k 0 = (x.at_.length : Int) := by simp [List.getD_eq_getElem?_getD, prs, hx]
              omega
            have HEX := Aside0.mk ex
            have HROW := Aside0.mk hrow
            have HBLK := Aside0.mk hblk
            rw [ex] at hcell
            clear hx hrow hblk ex
            by_cases h1 : 1 < x.at_.length
            · have hcon : Calls Try.prog 45 #[.slice A0 x.at_.length c0] wr fun e w' => e = .returned (.tuple #[]) ∧ wr.grownBy w' x.v.ownBlock ∧ Kd.R (Kd.int .i64) 3 w' w1.heap.size (fun k => x.v.ownBlock = some k) x.v (sortI x.at_) := by
                rw [← HEX.out]
                exact sort45 x.v x.at_ w1.heap.size wr HROW.out (by omega) (by omega)
              have HCN := Aside0.mk hcon
              clear hcon
              go_wp2_with (fail)
              refine HCN.out.mono ?_
              rintro e w4 ⟨rfl, hg4, hr4⟩
              have hblk4 := (hg4.block x.b (hq_lt HBLK.out) (Kd.R_ne HROW.out HBLK.out (by decide))).trans HBLK.out
              have hcell4 := hq_cell hblk4 0 _ rfl
              simp only [List.getElem_toArray, List.getElem_cons_zero] at hcell4
              rw [HEX.out] at hcell4
              have hout4 : Kd.R (Kd.slice 3 (Kd.int .i64)) 26 w4 w1.heap.size (fun b => ∀ (j : Nat) (y : Nd), k ≤ j → ys[j]? = some y → y.v.ownBlock ≠ some b) _ (groupsC ((prs ys).take k)) :=
                Kd.R_grown HI.out.out hg4 (fun b hb e => hb k x (Nat.le_refl _) HX.out e.symm)
              have hb4 : Below w1.heap.size w1 w4 := HI.out.below.grown hg4 HI.out.below.size (fun b hb => by
                obtain ⟨_, inner, ho, _⟩ := HROW.out
                exact own_base ho b hb)
              have HG4 := Aside0.mk hg4
              have HR4 := Aside0.mk hr4
              have HO4 := Aside0.mk hout4
              have HB4 := Aside0.mk hb4
              have HBLK4 := Aside0.mk hblk4
              clear hg4 hr4 hblk4 hout4 hb4 hcell hcell2 HCN
              have hglen := groups_len ((prs ys).take k)
              have htk : ((prs ys).take k).length ≤ 1000 := by simp [prs_length]; omega
              have hnx4 := hq_cell HBLK4.out 2 _ rfl
              go_wp2_with (at_builtin; refine Kd.R_append (Kd.slice 3 (Kd.int .i64)) (w0 := w1) w1.heap.size rfl (.tmp 38) (.tmp 43) 24 26 (.slice none 0 0) 24 rfl Try.underlying24 info26 rfl (by decide) (by decide) _ (groupsC ((prs ys).take k)) (sortI x.at_) [.slice A0 x.at_.length c0] (fun b => ∀ (j : Nat) (y : Nd), k + 1 ≤ j → ys[j]? = some y → y.v.ownBlock ≠ some b) (fun b => x.v.ownBlock = some b) rfl rfl ?aP ?aK ?aF ?aO ?aB ?aS ?aL ?_; (case aP => exact ⟨x.v, by rw [HEX.out], HR4.out⟩); (case aK => exact fun b hb => ⟨fun j y hj hy e => (HI.out.ne k j x y (by omega) HX.out hy).2 b hb e, fun e => Kd.R_ne HO4.out (own_typed HR4.out.2.choose_spec.1 b hb).choose_spec (by decide) e⟩); (case aF => exact fun b hb j y hj hy e => (fun hlt' => absurd hlt' (by omega)) (Nat.lt_of_lt_of_le (own_lt (HI.out.row j y (by omega) hy).2.choose_spec.1 b e) HG4.out.size)); (case aO => exact Kd.R_mono HO4.out (fun b hb j y hj hy => hb j y (by omega) hy)); (case aB => exact HB4.out); (case aS => exact HB4.out.size); (case aL => omega); intro v1 w5 ho hb hg5 hat; have hblk5 := (hg5.block x.b (hq_lt HBLK4.out) (Kd.R_ne HO4.out HBLK4.out (by decide))).trans HBLK4.out; have hnx5 := hq_cell hblk5 2 _ rfl; have HO5 := Aside0.mk ho; have HB5 := Aside0.mk hb; have HG5 := Aside0.mk hg5; clear ho hb hg5 hat hblk5)
              have hn : OutInv w1.heap.size w1 ys (k + 1) v1 w5 := by
                refine ⟨HI.out.lo, fun i z hz => ?_, fun i z hi hz => ?_, HI.out.ne, ?_, HB5.out⟩
                · have b0 := HI.out.blk i z hz
                  have b4 := (HG4.out.block z.b (hq_lt b0) (Kd.R_ne HROW.out b0 (by decide))).trans b0
                  exact (HG5.out.block z.b (hq_lt b4) (Kd.R_ne HO4.out b4 (by decide))).trans b4
                · have r4 := Kd.R_grown (HI.out.row i z (by omega) hz) HG4.out (fun b hb e => (HI.out.ne k i x z (by omega) HX.out hz).2 b e.symm hb)
                  exact Kd.R_grown r4 HG5.out (fun b hb e => Kd.R_ne HO4.out (own_typed r4.2.choose_spec.1 b hb).choose_spec (by decide) e)
                · rw [groups_succ HX.out, if_pos h1]
                  exact HO5.out
              have HN := Aside0.mk hn
              clear hn
              go_roundg gk
              case measure => omega
              case rel => exact ⟨k + 1, ⟨by have := HK.out; omega⟩, rfl, HN⟩
            · have hn : OutInv w1.heap.size w1 ys (k + 1) u6 wr := ⟨HI.out.lo, HI.out.blk, fun i z hi hz => HI.out.row i z (by omega) hz, HI.out.ne, by
                rw [groups_succ HX.out, if_neg h1, List.append_nil]
                exact Kd.R_mono HI.out.out (fun b hb j y hj hy => hb j y (by omega) hy), HI.out.below⟩
              have HN := Aside0.mk hn
              clear hn
              go_wp2
              go_roundg gk
              case measure => omega
              case rel => exact ⟨k + 1, ⟨by have := HK.out; omega⟩, rfl, HN⟩
          · have hkl : k = ys.length := by have := HK.out; omega
            have e : ptr ys k = none := by simp [ptr, hkl]
            rw [e]
            subst hkl
            clear e hlt
            go_wp2
            go_ret2
            have ho := HI.out.out
            rw [List.take_of_length_le (by rw [prs_length]; exact Nat.le_refl _), HF.out] at ho
            exact ⟨_, rfl, Kd.R_lower (Kd.R_mono ho (fun _ _ => trivial)) HB1.out.size, HB1.out.trans (HI.out.below.mono HB1.out.size)⟩
def cost_Choose.f (l0 : List S59) : Option (List (List Int) × Int) := if validL l0 then some (choose l0, 0) else some ([], 1)
theorem cost_Choose.calls (A0 : Option Addr) (c0 : Nat) (l0 : List S59) (r1 : List (List Int)) (r2 : Int) (w : World) (hr0 : Kd.C k59 w A0 l0.length l0) (hc0 : l0.length ≤ c0) (h : cost_Choose.f l0 = some (r1, r2)) :
    Calls Try.prog 33 #[.slice A0 l0.length c0] w fun e w' => ∃ v0_ : Value, e = .returned (.tuple #[v0_, .int .i64 r2]) ∧ Kd.R (Kd.slice 3 (Kd.int .i64)) 26 w' w.heap.size (fun _ => True) v0_ r1 ∧ Below w.heap.size w w' := by
  unfold cost_Choose.f at h
  cases hv : validL l0 with
  | true =>
    rw [hv] at h
    injection h with h
    injection h with h1 h2
    subst h1 h2
    exact choose_good A0 c0 l0 w hr0 hc0 hv
  | false =>
    rw [hv] at h
    injection h with h
    injection h with h1 h2
    subst h1 h2
    exact choose_bad A0 c0 l0 w hr0 hc0 hv
end Go.Proofs.Ytckempgpaojljaa.P
end
section
/- The contracts of cost.Read, cost.isGroup and cost.Merge. -/
namespace Go.Proofs.Ytckempgpaojljaa.P
set_option linter.unusedVariables false
set_option linter.unusedSimpArgs false
open Go.RowKit Go.Proofs.YtckempgpaojljaaW.PrintWords Go.Proofs.YtckempgpaojljaaW.PrintLast Go.Proofs.YtckempgpaojljaaW.PrintMore
def psum {α : Type} (f : α → Int) (l : List α) (k : Nat) : Int := ((l.take k).map f).sum
theorem psum_zero {α : Type} (f : α → Int) (l : List α) : psum f l 0 = 0 := by simp [psum]
theorem psum_succ {α : Type} (f : α → Int) (l : List α) (k : Nat) (x : α) (h : l[k]? = some x) : psum f l (k + 1) = psum f l k + f x := by
  unfold psum
  rw [List.take_add_one, h]
  simp
theorem psum_all {α : Type} (f : α → Int) (l : List α) : psum f l l.length = (l.map f).sum := by simp [psum]
theorem psum_bd {α : Type} (f : α → Int) (l : List α) (B : Int) (h : ∀ x ∈ l, 0 ≤ f x ∧ f x ≤ B) (k : Nat) (hk : k ≤ l.length) : 0 ≤ psum f l k ∧ psum f l k ≤ B * k := by
  induction k with
  | zero => simp [psum]
  | succ k ih =>
    obtain ⟨x, hx⟩ : ∃ x, l[k]? = some x := ⟨_, List.getElem?_eq_getElem (by omega)⟩
    rw [psum_succ f l k x hx]
    have := h x (List.mem_of_getElem? hx)
    have e : B * ((k + 1 : Nat) : Int) = B * k + B := by push_cast; rw [Int.mul_add, Int.mul_one]
    rw [e]
    have := ih (by omega)
    omega
theorem valid_mem {l : List S59} (h : validL l = true) : l.length ≤ 512 ∧ ∀ p ∈ l, 1 ≤ p.f0 ∧ p.f0 ≤ 5994 ∧ 0 ≤ p.f1 ∧ p.f1 ≤ 1000000000 := by
  simp only [validL, Bool.and_eq_true, decide_eq_true_eq, List.all_eq_true] at h
  refine ⟨h.1, fun p hp => ?_⟩
  have := h.2 p hp
  simp [oddP] at this
  omega
theorem read50 (p : S59) (w : World) (h0 : 0 ≤ p.f1) (h1 : p.f1 ≤ 1000000000) : Calls Try.prog 50 #[.agg #[.int .i64 p.f0, .int .i64 p.f1]] w fun e w' => e = .returned (.int .i64 (4096 + p.f1)) ∧ Below w.heap.size w w' := by
  go_enter Try.func50, Try.ntmps50
  go_wp2
  go_ret
  exact ⟨rfl, (Below.refl _ _).alloc (Nat.le_refl _) _⟩
def readN (l : List S59) : Int := (l.map fun p => 4096 + p.f1).sum
theorem at_get {l : List S59} {k : Nat} (hlt : k < l.length) : l[k]? = some (rd_T59 l k) := by
  simp [rd_T59, List.getD_eq_getElem?_getD, hlt]
set_option maxHeartbeats 400000 in
theorem sum49 (A : Option Addr) (c : Nat) (l : List S59) (w : World) (hr : Kd.C k59 w A l.length l) (hc : l.length ≤ c) (hv : validL l = true) :
    Calls Try.prog 49 #[.slice A l.length c, .func (.func 50) #[] #[]] w fun e w' => e = .returned (.int .i64 (readN l)) ∧ Below w.heap.size w w' := by
  obtain ⟨hl, hm⟩ := valid_mem hv
  have HM := Aside0.mk hm
  have HBD := Aside0.mk (psum_bd (fun p : S59 => 4096 + p.f1) l 1000004096 (fun x hx => by have := HM.out x hx; omega))
  have HR := Aside0.mk hr
  clear hr hm hv
  go_enter Try.func49, Try.ntmps49
  go_wp2
  go_loopw [10, 5] (fun v10 v5 w' => ∃ k : Nat, k ≤ l.length ∧ v10 = .int .i64 k ∧ v5 = .int .i64 (psum (fun p : S59 => 4096 + p.f1) l k) ∧ Aside0 (Below w.heap.size w w')) (fun v10 _ _ => l.length - (intOf v10).toNat)
  case atStart => exact ⟨0, by omega, rfl, by rw [psum_zero], ⟨Below.refl _ _⟩⟩
  case round =>
    obtain ⟨k, hk, rfl, rfl, HB⟩ := hrel
    by_cases hlt : k < l.length
    · obtain ⟨ad, rfl, h0, h1⟩ := at_T59 HR.out (k : Int) (by omega) (by omega)
      replace h0 := (HB.out.cell (World.block_lt_of_cell? w _ h0)).trans h0
      replace h1 := (HB.out.cell (World.block_lt_of_cell? w _ h1)).trans h1
      simp only [Int.toNat_natCast] at h0 h1
      have HS := Aside0.mk (psum_succ (fun p : S59 => 4096 + p.f1) l k _ (at_get hlt))
      have hpm := HM.out _ (List.mem_of_getElem? (at_get hlt))
      obtain ⟨b0, b1⟩ := HBD.out k hk
      generalize hp : rd_T59 l k = p at h0 h1 HS hpm
      have Hp := Aside0.mk hp
      clear hp
      generalize psum (fun p : S59 => 4096 + p.f1) l k = s at *
      obtain ⟨p1, p2, p3, p4⟩ := hpm
      have hb1 : s ≤ 1000004096 * 512 := by omega
      clear b1
      go_wp2_with (fail)
      refine (read50 p _ p3 p4).mono ?_
      rintro e w1 ⟨rfl, hb⟩
      have HB1 := Aside0.mk hb
      clear hb
      go_wp2
      go_roundw
      case rel => exact ⟨k + 1, by omega, by go_num, by rw [HS.out], ⟨below_step (HB.out.alloc HB.out.size _) HB1.out⟩⟩
      case measure => simp [intOf]; omega
    · obtain rfl : k = l.length := by omega
      have HA := Aside0.mk (psum_all (fun p : S59 => 4096 + p.f1) l)
      generalize psum (fun p : S59 => 4096 + p.f1) l l.length = s at *
      go_wp2
      go_ret
      exact ⟨ret_int HA.out, HB.out⟩
def IntPost (w : World) (n e : Int) (x : Ending) (w' : World) : Prop := x = .returned (.tuple #[.int .i64 n, .int .i64 e]) ∧ Below w.heap.size w w'
theorem read_bad (A : Option Addr) (c : Nat) (l : List S59) (w : World) (hr : Kd.C k59 w A l.length l) (hc : l.length ≤ c) (hv : validL l = false) : Calls Try.prog 35 #[.slice A l.length c] w (IntPost w 0 1) := by
  have hcon := valid11 A c l w hr hc
  rw [hv] at hcon
  have HCON := Aside0.mk hcon
  clear hcon hr hv
  go_enter Try.func35, Try.ntmps35
  go_wp2_with (fail)
  refine HCON.out.mono ?_
  rintro e w1 ⟨rfl, hb⟩
  go_wp2
  go_ret2
  exact ⟨rfl, hb⟩
theorem read_good (A : Option Addr) (c : Nat) (l : List S59) (w : World) (hr : Kd.C k59 w A l.length l) (hc : l.length ≤ c) (hv : validL l = true) : Calls Try.prog 35 #[.slice A l.length c] w (IntPost w (readN l) 0) := by
  have hcon := valid11 A c l w hr hc
  rw [hv] at hcon
  have HCON := Aside0.mk hcon
  have HR := Aside0.mk hr
  have HV := Aside0.mk hv
  clear hcon hr hv
  go_enter Try.func35, Try.ntmps35
  go_wp2_with (fail)
  refine HCON.out.mono ?_
  rintro e w1 ⟨rfl, hb⟩
  have HB := Aside0.mk hb
  clear hb
  go_wp2_with (fail)
  refine (sum49 A c l w1 (Kd.C_below HR.out HB.out) hc HV.out).mono ?_
  rintro e w2 ⟨rfl, hb⟩
  have HB2 := Aside0.mk hb
  clear hb
  generalize hn : readN l = n
  have HN := Aside0.mk hn
  clear hn
  go_wp2
  go_ret2
  exact ⟨by rw [HN.out]; rfl, below_step HB.out HB2.out⟩
def cost_Read.f (l0 : List S59) : Option (Int × Int) := if validL l0 then some (readN l0, 0) else some (0, 1)
theorem cost_Read.calls (A0 : Option Addr) (c0 : Nat) (l0 : List S59) (r1 : Int) (r2 : Int) (w : World) (hr0 : Kd.C k59 w A0 l0.length l0) (hc0 : l0.length ≤ c0) (h : cost_Read.f l0 = some (r1, r2)) :
    Calls Try.prog 35 #[.slice A0 l0.length c0] w fun e w' => e = .returned (.tuple #[.int .i64 r1, .int .i64 r2]) ∧ Below w.heap.size w w' := by
  unfold cost_Read.f at h
  cases hv : validL l0 with
  | true =>
    rw [hv] at h
    injection h with h
    injection h with h1 h2
    subst h1 h2
    exact read_good A0 c0 l0 w hr0 hc0 hv
  | false =>
    rw [hv] at h
    injection h with h
    injection h with h1 h2
    subst h1 h2
    exact read_bad A0 c0 l0 w hr0 hc0 hv
end Go.Proofs.Ytckempgpaojljaa.P
end
section
/- The contracts of cost.isGroup and cost.Merge. -/
namespace Go.Proofs.Ytckempgpaojljaa.P
set_option linter.unusedVariables false
set_option linter.unusedSimpArgs false
open Go.RowKit Go.Proofs.YtckempgpaojljaaW.PrintWords Go.Proofs.YtckempgpaojljaaW.PrintLast Go.Proofs.YtckempgpaojljaaW.PrintMore
def incr (n : Int) : Int → List Int → Bool
  | _, [] => true
  | last, x :: g => decide (last < x) && decide (x < n) && incr n x g
def okG (n : Int) (g : List Int) : Bool := incr n (-1) g && decide (0 < g.length)
theorem drop_get {α : Type} {l : List α} {k : Nat} {x : α} (h : l[k]? = some x) : l.drop k = x :: l.drop (k + 1) := by
  obtain ⟨hk, rfl⟩ := List.getElem?_eq_some_iff.1 h
  exact List.drop_eq_getElem_cons hk
theorem at_getI {l : List Int} {k : Nat} (hlt : k < l.length) : l[k]? = some (rd l k) := by
  simp [rd, List.getD_eq_getElem?_getD, hlt]
set_option maxHeartbeats 400000 in
theorem group51 (A B : Option Addr) (c d : Nat) (l : List S59) (g : List Int) (w : World) (hl : l.length ≤ 9223372036854775807) (hc : l.length ≤ c) (hg : Kd.C (Kd.int .i64) w B g.length g) (hd : g.length ≤ d) :
    Calls Try.prog 51 #[.slice A l.length c, .slice B g.length d] w fun e w' => e = .returned (.bool (okG l.length g)) ∧ Below w.heap.size w w' := by
  have hgl : g.length ≤ 9223372036854775807 := hg.2.1
  have HG := Aside0.mk hg
  clear hg
  go_enter Try.func51, Try.ntmps51
  go_wp2
  go_loopw [10, 5] (fun v10 v5 w' => ∃ (k : Nat) (last : Int), k ≤ g.length ∧ v10 = .int .i64 k ∧ v5 = .int .i64 last ∧ Aside0 (incr l.length (-1) g = incr l.length last (g.drop k)) ∧ Aside0 (Below w.heap.size w w')) (fun v10 _ _ => g.length - (intOf v10).toNat)
  case atStart => exact ⟨0, -1, by omega, rfl, rfl, ⟨rfl⟩, ⟨Below.refl _ _⟩⟩
  case round =>
    obtain ⟨k, last, hk, rfl, rfl, HI, HB⟩ := hrel
    by_cases hlt : k < g.length
    · obtain ⟨ad, rfl, h0⟩ := Kd.at_int HG.out (k : Int) (by omega) (by omega)
      replace h0 := (HB.out.cell (World.block_lt_of_cell? w _ h0)).trans h0
      simp only [Int.toNat_natCast] at h0
      have HX := Aside0.mk (drop_get (at_getI hlt))
      generalize hp : rd g k = p at h0 HX
      clear hp
      have hn : incr l.length (-1) g = (decide (last < p) && decide (p < (l.length : Int)) && incr l.length p (g.drop (k + 1))) := by rw [HI.out, HX.out]; rfl
      have HN := Aside0.mk hn
      clear hn
      by_cases h1 : p ≤ last
      · go_wp2
        go_ret
        exact ⟨ret_bool (by rw [okG, HN.out]; simp; omega), HB.out⟩
      · by_cases h2 : (l.length : Int) ≤ p
        · go_wp2
          go_ret
          exact ⟨ret_bool (by rw [okG, HN.out]; simp; omega), HB.out⟩
        · go_wp2
          go_roundw
          case rel => exact ⟨k + 1, p, by omega, by go_num, rfl, ⟨by rw [HN.out]; simp; omega⟩, HB⟩
          case measure => simp [intOf]; omega
    · obtain rfl : k = g.length := by omega
      have HI2 : Aside0 (incr l.length (-1) g = true) := ⟨by rw [HI.out]; simp [incr]⟩
      go_wp2
      go_ret
      exact ⟨ret_bool (by rw [okG, HI2.out, Bool.true_and]), HB.out⟩
def sumG (f : Int → Int) (g : List Int) : Int := (g.map f).sum
theorem incr_bd {n last : Int} {g : List Int} (h : incr n last g = true) (hl : -1 ≤ last) : ∀ x ∈ g, last < x ∧ x < n := by
  induction g generalizing last with
  | nil => simp
  | cons y g ih =>
    simp only [incr, Bool.and_eq_true, decide_eq_true_eq] at h
    intro x hx
    rcases List.mem_cons.1 hx with rfl | hx
    · omega
    · have := ih h.2 (by omega) x hx
      omega
theorem okG_bd {n : Int} {g : List Int} (h : okG n g = true) : ∀ x ∈ g, 0 ≤ x ∧ x < n := by
  simp only [okG, Bool.and_eq_true, decide_eq_true_eq] at h
  intro x hx
  have := incr_bd h.1 (by omega) x hx
  omega
theorem incr_len {n last : Int} {g : List Int} (h : incr n last g = true) (hl : last < n) : (g.length : Int) ≤ n - last - 1 := by
  induction g generalizing last with
  | nil => simp; omega
  | cons y g ih =>
    simp only [incr, Bool.and_eq_true, decide_eq_true_eq] at h
    have := ih h.2 (by omega)
    simp
    omega
theorem okG_len {n : Nat} {g : List Int} (h : okG n g = true) : 0 < g.length ∧ g.length ≤ n := by
  simp only [okG, Bool.and_eq_true, decide_eq_true_eq] at h
  have := incr_len h.1 (by omega)
  omega
set_option maxHeartbeats 400000 in
theorem sum52 (F : FuncId) (b : Nat) (f : Int → Int) (B : Option Addr) (d : Nat) (g : List Int) (w : World) (hg : Kd.C (Kd.int .i64) w B g.length g) (hd : g.length ≤ d) (hgl : g.length ≤ 512) (hcf : ∀ args w, (callFunc F args).run Try.prog w = .ok (.enter F args) w)
    (hf : ∀ i ∈ g, 0 ≤ f i ∧ f i ≤ 3000000000 ∧ ∀ W, Below w.heap.size w W → Calls Try.prog F #[.int .i64 i, .pointer (some ⟨b, 0, none⟩)] W fun e W' => e = .returned (.int .i64 (f i)) ∧ W' = W) :
    Calls Try.prog 52 #[.slice B g.length d, .func (.func F) #[] #[.pointer (some ⟨b, 0, none⟩)]] w fun e w' => e = .returned (.int .i64 (sumG f g)) ∧ Below w.heap.size w w' := by
  have HBD := Aside0.mk (psum_bd f g 3000000000 (fun x hx => ⟨(hf x hx).1, (hf x hx).2.1⟩))
  have HF := Aside0.mk hf
  have HG := Aside0.mk hg
  clear hg hf
  go_enter Try.func52, Try.ntmps52
  go_wp2
  go_loopw [10, 5] (fun v10 v5 w' => ∃ k : Nat, k ≤ g.length ∧ v10 = .int .i64 k ∧ v5 = .int .i64 (psum f g k) ∧ Aside0 (Below w.heap.size w w')) (fun v10 _ _ => g.length - (intOf v10).toNat)
  case atStart => exact ⟨0, by omega, rfl, by rw [psum_zero], ⟨Below.refl _ _⟩⟩
  case round =>
    obtain ⟨k, hk, rfl, rfl, HB⟩ := hrel
    by_cases hlt : k < g.length
    · obtain ⟨ad, rfl, h0⟩ := Kd.at_int HG.out (k : Int) (by omega) (by omega)
      replace h0 := (HB.out.cell (World.block_lt_of_cell? w _ h0)).trans h0
      simp only [Int.toNat_natCast] at h0
      have HS := Aside0.mk (psum_succ f g k _ (at_getI hlt))
      obtain ⟨f0, f1, hcall⟩ := HF.out _ (List.mem_of_getElem? (at_getI hlt))
      have HC := Aside0.mk hcall
      clear hcall
      obtain ⟨b0, b1⟩ := HBD.out k hk
      generalize hp : rd g k = p at h0 HS HC f0 f1
      clear hp
      generalize hfp : f p = y at HS f0 f1
      have HY := Aside0.mk hfp
      clear hfp
      generalize psum f g k = s at *
      have hb1 : s ≤ 3000000000 * 512 := by omega
      clear b1
      go_wp2_with (fail)
      refine (HC.out _ HB.out).mono ?_
      rintro e w1 ⟨rfl, rfl⟩
      rw [HY.out]
      go_wp2
      go_roundw
      case rel => exact ⟨k + 1, by omega, by go_num, by rw [HS.out], HB⟩
      case measure => simp [intOf]; omega
    · obtain rfl : k = g.length := by omega
      have HA := Aside0.mk (psum_all f g)
      generalize psum f g g.length = s at *
      go_wp2
      go_ret
      exact ⟨ret_int HA.out, HB.out⟩
def mrgF (l : List S59) (i : Int) : Int := 4096 + 2 * (rd_T59 l i).f1
theorem clo55 (A : Option Addr) (c : Nat) (l : List S59) (b : Nat) (i : Int) (W : World) (hb : W.heap[b]? = some (.cells #[.slice A l.length c] 30 (0, 0))) (hr : Kd.C k59 W A l.length l) (hc : l.length ≤ c) (hi : 0 ≤ i ∧ i < l.length) (hB : 0 ≤ (rd_T59 l i).f1 ∧ (rd_T59 l i).f1 ≤ 1000000000) :
    Calls Try.prog 55 #[.int .i64 i, .pointer (some ⟨b, 0, none⟩)] W fun e W' => e = .returned (.int .i64 (mrgF l i)) ∧ W' = W := by
  obtain ⟨ad, rfl, h0, h1⟩ := at_T59 hr i hi.1 hi.2
  have hl : l.length ≤ 9223372036854775807 := hr.2.1
  have hcell := hq_cell hb 0 _ rfl
  obtain ⟨hi0, hi1⟩ := hi
  obtain ⟨hB0, hB1⟩ := hB
  clear hb hr
  unfold mrgF
  generalize (rd_T59 l i).f1 = y at *
  go_enter Try.func55, Try.ntmps55
  go_wp2
  go_ret
  exact ⟨rfl, rfl⟩
theorem fn55 : ∀ args w, (callFunc 55 args).run Try.prog w = .ok (.enter 55 args) w := fun _ _ => rfl
theorem fn53 : ∀ args w, (callFunc 53 args).run Try.prog w = .ok (.enter 53 args) w := fun _ _ => rfl
theorem fn54 : ∀ args w, (callFunc 54 args).run Try.prog w = .ok (.enter 54 args) w := fun _ _ => rfl
def mergeN (l : List S59) (g : List Int) : Int := 4096 + sumG (mrgF l) g
theorem rd_mem {l : List S59} {i : Int} (h0 : 0 ≤ i) (h1 : i < l.length) : rd_T59 l i ∈ l := by
  have : i.toNat < l.length := by omega
  simp [rd_T59, List.getD_eq_getElem?_getD, this]
theorem merge_good (A B : Option Addr) (c d : Nat) (l : List S59) (g : List Int) (w : World) (hr : Kd.C k59 w A l.length l) (hc : l.length ≤ c) (hg : Kd.C (Kd.int .i64) w B g.length g) (hd : g.length ≤ d) (hv : validL l = true) (ho : okG l.length g = true) :
    Calls Try.prog 39 #[.slice A l.length c, .slice B g.length d] w (IntPost w (mergeN l g) 0) := by
  have hl : l.length ≤ 9223372036854775807 := hr.2.1
  obtain ⟨hl5, hm⟩ := valid_mem hv
  obtain ⟨hg0, hgl⟩ := okG_len ho
  have HM := Aside0.mk hm
  have HR := Aside0.mk hr
  have HG := Aside0.mk hg
  have HV := Aside0.mk hv
  have HO := Aside0.mk ho
  clear hm hr hg hv ho
  go_enter Try.func39, Try.ntmps39
  go_wp2_with (fail)
  have hb1 : Below w.heap.size w (w.alloc (.cells #[.slice A l.length c] 30 (0, 0))) := (Below.refl _ _).alloc (Nat.le_refl _) _
  have hbox : (w.alloc (.cells #[.slice A l.length c] 30 (0, 0))).heap[w.heap.size]? = some (.cells #[.slice A l.length c] 30 (0, 0)) := heap_alloc_new _ _
  have HB1 := Aside0.mk hb1
  have HX := Aside0.mk hbox
  clear hb1 hbox
  have hcon := valid11 A c l _ (Kd.C_below HR.out HB1.out) hc
  rw [HV.out] at hcon
  refine hcon.mono ?_
  rintro e w1 ⟨rfl, hb⟩
  have HX1 := Aside0.mk ((hb.block w.heap.size (hq_lt HX.out)).trans HX.out)
  have HB2 := Aside0.mk (below_step HB1.out hb)
  have hcell := hq_cell HX1.out 0 _ rfl
  simp only [List.getElem_toArray, List.getElem_cons_zero] at hcell
  clear hb hcon
  go_wp2_with (fail)
  have hcon := group51 A B c d l g w1 hl hc (Kd.C_below HG.out HB2.out) hd
  rw [HO.out] at hcon
  refine hcon.mono ?_
  rintro e w2 ⟨rfl, hb⟩
  have HX2 := Aside0.mk ((hb.block w.heap.size (hq_lt HX1.out)).trans HX1.out)
  have HB3 := Aside0.mk (below_step HB2.out hb)
  clear hb hcon hcell
  go_wp2_with (fail)
  refine (sum52 55 w.heap.size (mrgF l) B d g w2 (Kd.C_below HG.out HB3.out) hd (by omega) fn55 (fun i hi => ?_)).mono ?_
  · have hii := okG_bd HO.out i hi
    have := HM.out _ (rd_mem hii.1 hii.2)
    exact ⟨by unfold mrgF; omega, by unfold mrgF; omega, fun W hW => clo55 A c l w.heap.size i W ((hW.block _ (hq_lt HX2.out)).trans HX2.out) (Kd.C_below HR.out (below_step HB3.out hW)) hc hii (by omega)⟩
  rintro e w3 ⟨rfl, hb⟩
  have HB4 := Aside0.mk (below_step HB3.out hb)
  have hs : 0 ≤ sumG (mrgF l) g ∧ sumG (mrgF l) g ≤ 3000000000 * 512 := by
    have := psum_bd (mrgF l) g 3000000000 (fun i hi => by
      have hii := okG_bd HO.out i hi
      have := HM.out _ (rd_mem hii.1 hii.2)
      unfold mrgF
      omega) g.length (Nat.le_refl _)
    rw [psum_all] at this
    unfold sumG
    omega
  obtain ⟨s0, s1⟩ := hs
  clear hb
  generalize hn : sumG (mrgF l) g = n at *
  have HN := Aside0.mk hn
  clear hn
  go_wp2
  go_ret2
  exact ⟨by rw [mergeN, HN.out]; rfl, HB4.out⟩
theorem merge_bad1 (A B : Option Addr) (c d : Nat) (l : List S59) (g : List Int) (w : World) (hr : Kd.C k59 w A l.length l) (hc : l.length ≤ c) (hg : Kd.C (Kd.int .i64) w B g.length g) (hd : g.length ≤ d) (hv : validL l = false) :
    Calls Try.prog 39 #[.slice A l.length c, .slice B g.length d] w (IntPost w 0 1) := by
  have HR := Aside0.mk hr
  have HV := Aside0.mk hv
  clear hr hg hv
  go_enter Try.func39, Try.ntmps39
  go_wp2_with (fail)
  have HB1 : Aside0 (Below w.heap.size w (w.alloc (.cells #[.slice A l.length c] 30 (0, 0)))) := ⟨(Below.refl _ _).alloc (Nat.le_refl _) _⟩
  have hcon := valid11 A c l _ (Kd.C_below HR.out HB1.out) hc
  rw [HV.out] at hcon
  refine hcon.mono ?_
  rintro e w1 ⟨rfl, hb⟩
  have HB2 := Aside0.mk (below_step HB1.out hb)
  clear hb hcon
  go_wp2
  go_ret2
  exact ⟨rfl, HB2.out⟩
theorem merge_bad2 (A B : Option Addr) (c d : Nat) (l : List S59) (g : List Int) (w : World) (hr : Kd.C k59 w A l.length l) (hc : l.length ≤ c) (hg : Kd.C (Kd.int .i64) w B g.length g) (hd : g.length ≤ d) (hv : validL l = true) (ho : okG l.length g = false) :
    Calls Try.prog 39 #[.slice A l.length c, .slice B g.length d] w (IntPost w 0 1) := by
  have hl : l.length ≤ 9223372036854775807 := hr.2.1
  have HR := Aside0.mk hr
  have HG := Aside0.mk hg
  have HV := Aside0.mk hv
  have HO := Aside0.mk ho
  clear hr hg hv ho
  go_enter Try.func39, Try.ntmps39
  go_wp2_with (fail)
  have HB1 : Aside0 (Below w.heap.size w (w.alloc (.cells #[.slice A l.length c] 30 (0, 0)))) := ⟨(Below.refl _ _).alloc (Nat.le_refl _) _⟩
  have HX : Aside0 ((w.alloc (.cells #[.slice A l.length c] 30 (0, 0))).heap[w.heap.size]? = some (.cells #[.slice A l.length c] 30 (0, 0))) := ⟨heap_alloc_new _ _⟩
  have hcon := valid11 A c l _ (Kd.C_below HR.out HB1.out) hc
  rw [HV.out] at hcon
  refine hcon.mono ?_
  rintro e w1 ⟨rfl, hb⟩
  have HX1 := Aside0.mk ((hb.block w.heap.size (hq_lt HX.out)).trans HX.out)
  have HB2 := Aside0.mk (below_step HB1.out hb)
  have hcell := hq_cell HX1.out 0 _ rfl
  simp only [List.getElem_toArray, List.getElem_cons_zero] at hcell
  clear hb hcon
  go_wp2_with (fail)
  have hcon := group51 A B c d l g w1 hl hc (Kd.C_below HG.out HB2.out) hd
  rw [HO.out] at hcon
  refine hcon.mono ?_
  rintro e w2 ⟨rfl, hb⟩
  have HB3 := Aside0.mk (below_step HB2.out hb)
  clear hb hcon hcell
  go_wp2
  go_ret2
  exact ⟨rfl, HB3.out⟩
def cost_Merge.f (l0 : List S59) (l1 : List Int) : Option (Int × Int) := if validL l0 && okG l0.length l1 then some (mergeN l0 l1, 0) else some (0, 1)
theorem cost_Merge.calls (A0 : Option Addr) (c0 : Nat) (l0 : List S59) (A1 : Option Addr) (c1 : Nat) (l1 : List Int) (r1 : Int) (r2 : Int) (w : World) (hr0 : Kd.C k59 w A0 l0.length l0) (hc0 : l0.length ≤ c0) (hr1 : Kd.C (Kd.int .i64) w A1 l1.length l1) (hc1 : l1.length ≤ c1) (h : cost_Merge.f l0 l1 = some (r1, r2)) :
    Calls Try.prog 39 #[.slice A0 l0.length c0, .slice A1 l1.length c1] w fun e w' => e = .returned (.tuple #[.int .i64 r1, .int .i64 r2]) ∧ Below w.heap.size w w' := by
  unfold cost_Merge.f at h
  cases hv : validL l0 with
  | true =>
    cases ho : okG l0.length l1 with
    | true =>
      rw [hv, ho] at h
      injection h with h
      injection h with h1 h2
      subst h1 h2
      exact merge_good A0 A1 c0 c1 l0 l1 w hr0 hc0 hr1 hc1 hv ho
    | false =>
      rw [hv, ho] at h
      injection h with h
      injection h with h1 h2
      subst h1 h2
      exact merge_bad2 A0 A1 c0 c1 l0 l1 w hr0 hc0 hr1 hc1 hv ho
  | false =>
    rw [hv] at h
    injection h with h
    injection h with h1 h2
    subst h1 h2
    exact merge_bad1 A0 A1 c0 c1 l0 l1 w hr0 hc0 hr1 hc1 hv
end Go.Proofs.Ytckempgpaojljaa.P
end
section
/- The contracts of slices.IndexFunc and slices.DeleteFunc over rows of numbers. -/
namespace Go.Proofs.Ytckempgpaojljaa.P
set_option linter.unusedVariables false
set_option linter.unusedSimpArgs false
open Go.RowKit Go.Proofs.YtckempgpaojljaaW.PrintWords Go.Proofs.YtckempgpaojljaaW.PrintLast Go.Proofs.YtckempgpaojljaaW.PrintMore
abbrev RR (w : World) (base : Nat) (ok : Nat → Prop) (v : Value) (xs : List (List Int)) : Prop := Kd.R (Kd.slice 3 (Kd.int .i64)) 26 w base ok v xs
theorem rr_get {W : World} {base g n cap : Nat} {ok : Nat → Prop} {xs : List (List Int)} (h : RR W base ok (.slice (some ⟨g, 0, none⟩) n cap) xs) (i : Nat) (hi : i < n) :
    ∃ u, W.cell? ⟨g, i, none⟩ = some u ∧ W.frozen? ⟨g, i, none⟩ = false ∧ Kd.R (Kd.int .i64) 3 W base (fun k => ok k ∧ k ≠ g) u (xs.getD i []) := by
  obtain ⟨c, hc, hM, hcell, hf⟩ := Kd.R_elem h ([] : List Int) (i : Int) (by omega) (by omega)
  obtain ⟨u, rfl, hu⟩ := hM
  refine ⟨u, ?_, ?_, by simpa using hu⟩
  · have := hcell 0 u rfl
    simpa [Kd.slice] using this
  · have := hf 0
    simpa [Kd.slice] using this
theorem rr_put {W : World} {base g n cap : Nat} {ok : Nat → Prop} {xs : List (List Int)} (h : RR W base ok (.slice (some ⟨g, 0, none⟩) n cap) xs) (i : Nat) (hi : i < n) {u : Value} {x : List Int} (hu : Kd.R (Kd.int .i64) 3 W base (fun k => ok k ∧ k ≠ g) u x) :
    RR (W.setCell ⟨g, i, none⟩ u) base ok (.slice (some ⟨g, 0, none⟩) n cap) (xs.set i x) ∧ W.grownBy (W.setCell ⟨g, i, none⟩ u) (some g) := by
  obtain ⟨c, hc, hM, hcell, hf⟩ := Kd.R_elem h ([] : List Int) (i : Int) (by omega) (by omega)
  have hc1 : c.length = 1 := hc
  have e : c.take 0 ++ [u] ++ c.drop (0 + [u].length) = [u] := by
    rw [List.take_zero, List.drop_eq_nil_of_le (by simp [hc1])]; rfl
  have hz : (Kd.slice 3 (Kd.int .i64)).sz = 1 := rfl
  have := Kd.R_seg h (i : Int) (by omega) (by omega) (c := c) (seg := [u]) (j := 0) hc hcell (by rw [hz]; simp) (okp := fun k => ok k ∧ k ≠ g) (x' := x) ⟨u, e, hu⟩ (fun k hk => hk)
  simp only [hz, Nat.mul_one, Nat.add_zero, Int.toNat_natCast, World.setCells] at this
  exact this
theorem rr_clear {base g n cap : Nat} {ok : Nat → Prop} (m : Nat) : ∀ {W : World} {xs : List (List Int)} (i : Nat), RR W base ok (.slice (some ⟨g, 0, none⟩) n cap) xs → i + m ≤ n →
    ∃ xs', RR (W.setCells g i (List.replicate m (.slice none 0 0))) base ok (.slice (some ⟨g, 0, none⟩) n cap) xs' ∧ xs'.take i = xs.take i ∧ W.grownBy (W.setCells g i (List.replicate m (.slice none 0 0))) (some g) := by
  induction m with
  | zero => 
    intro W xs i h _
    exact ⟨xs, h, rfl, ⟨rfl, rfl, rfl, Nat.le_refl _, fun _ _ _ => rfl⟩⟩
  | succ m ih =>
    intro W xs i h hm
    obtain ⟨h1, g1⟩ := rr_put h i (by omega) (u := .slice none 0 0) (x := []) (Kd.R_nil _ _ _ _ _)
    obtain ⟨xs', h2, ht, g2⟩ := ih (i + 1) h1 (by omega)
    refine ⟨xs', h2, ?_, ?_⟩
    · have := congrArg (fun l => l.take i) ht
      simp only [List.take_take] at this
      rw [Nat.min_eq_left (by omega)] at this
      rw [this, List.take_set_of_le (by omega)]
    · exact g1.trans g2
def idxP (p : List Int → Bool) (r : List (List Int)) : Int := match r.findIdx? p with | some i => (i : Int) | none => -1
theorem idxP_at {p : List Int → Bool} {r : List (List Int)} {k : Nat} {x : List Int} (hx : r[k]? = some x) (h : ∀ (j : Nat) (y : List Int), j < k → r[j]? = some y → p y = false) (ho : p x = true) : idxP p r = k := by
  obtain ⟨hk, rfl⟩ := List.getElem?_eq_some_iff.1 hx
  have : r.findIdx? p = some k := by
    rw [List.findIdx?_eq_some_iff_getElem]
    exact ⟨hk, ho, fun j hj => by simpa using h j _ hj (List.getElem?_eq_getElem (by omega))⟩
  simp [idxP, this]
theorem idxP_none {p : List Int → Bool} {r : List (List Int)} (h : ∀ (j : Nat) (y : List Int), r[j]? = some y → p y = false) : idxP p r = -1 := by
  have : r.findIdx? p = none := by
    rw [List.findIdx?_eq_none_iff]
    intro x hx
    obtain ⟨i, hi, rfl⟩ := List.getElem_of_mem hx
    exact h i _ (List.getElem?_eq_getElem hi)
  simp [idxP, this]
def PredC (F : FuncId) (b1 b2 : Nat) (p : List Int → Bool) (base : Nat) (w0 : World) (r : List (List Int)) : Prop :=
  ∀ x ∈ r, ∀ (A : Option Addr) (c : Nat) (W : World), Below base w0 W → Kd.C (Kd.int .i64) W A x.length x → x.length ≤ c →
    Calls Try.prog F #[.slice A x.length c, .pointer (some ⟨b1, 0, none⟩), .pointer (some ⟨b2, 0, none⟩)] W fun e W' => e = .returned (.bool (p x)) ∧ Below W.heap.size W W'
theorem rr_read {W : World} {A : Option Addr} {n : Nat} {xs : List (List Int)} (h : Kd.C (Kd.slice 3 (Kd.int .i64)) W A n xs) (i : Nat) (hi : i < n) {x : List Int} (hx : xs[i]? = some x) :
    ∃ ad A0 c0, A = some ad ∧ W.cell? (ad.add i) = some (.slice A0 x.length c0) ∧ x.length ≤ c0 ∧ Kd.C (Kd.int .i64) W A0 x.length x := by
  obtain ⟨ad, A0, c0, e, h1, h2, h3⟩ := at_L5 h (i : Int) (by omega) (by omega)
  have e2 : rd_L5 xs (i : Int) = x := by simp [rd_L5, List.getD_eq_getElem?_getD, hx]
  rw [e2] at h1 h2 h3
  exact ⟨ad, A0, c0, e, by simpa using h1, h2, h3⟩
set_option maxHeartbeats 400000 in
theorem idx66 (F : FuncId) (hcf : ∀ args w, (callFunc F args).run Try.prog w = .ok (.enter F args) w) (b1 b2 : Nat) (p : List Int → Bool) (base : Nat) (w0 : World) (A : Option Addr) (c : Nat) (r : List (List Int)) (w : World) (hb : Below base w0 w) (hbs : base ≤ w.heap.size)
    (hr : Kd.C (Kd.slice 3 (Kd.int .i64)) w A r.length r) (hc : r.length ≤ c) (hp : PredC F b1 b2 p base w0 r) :
    Calls Try.prog 66 #[.slice A r.length c, .func (.func F) #[] #[.pointer (some ⟨b1, 0, none⟩), .pointer (some ⟨b2, 0, none⟩)]] w fun e w' => e = .returned (.int .i64 (idxP p r)) ∧ Below w.heap.size w w' := by
  have hl : r.length ≤ 9223372036854775807 := hr.2.1
  have HR := Aside0.mk hr
  have HP := Aside0.mk hp
  have HW := Aside0.mk hb
  clear hr hp hb
  go_enter Try.func66, Try.ntmps66
  go_wp2
  go_loopw [8, 5] (fun v8 v5 w' => ∃ k : Nat, k ≤ r.length ∧ v8 = .int .i64 k ∧ Aside0 (∀ (j : Nat) (y : List Int), j < k → r[j]? = some y → p y = false) ∧ Aside0 (Below w.heap.size w w')) (fun v8 _ _ => r.length - (intOf v8).toNat)
  case atStart => exact ⟨0, by omega, rfl, ⟨by omega⟩, ⟨Below.refl _ _⟩⟩
  case round =>
    obtain ⟨k, hk, rfl, HQ, HB⟩ := hrel
    by_cases hlt : k < r.length
    · obtain ⟨x, hx⟩ : ∃ x, r[k]? = some x := ⟨_, List.getElem?_eq_getElem hlt⟩
      obtain ⟨ad, A0, c0, rfl, h0, h1, h2⟩ := rr_read (Kd.C_below HR.out HB.out) k hlt hx
      have hcall := HP.out x (List.mem_of_getElem? hx) A0 c0 _ (HW.out.trans (HB.out.mono hbs)) h2 h1
      have HX := Aside0.mk hx
      clear hx h2
      cases hpx : p x with
      | true =>
        rw [hpx] at hcall
        have HPX := Aside0.mk hpx
        clear hpx
        go_wp2_with (fail)
        refine hcall.mono ?_
        rintro e w1 ⟨rfl, hb⟩
        have HB1 := Aside0.mk hb
        clear hb hcall
        go_wp2
        go_ret
        exact ⟨ret_int (idxP_at HX.out HQ.out HPX.out).symm, below_step HB.out HB1.out⟩
      | false =>
        rw [hpx] at hcall
        have HPX := Aside0.mk hpx
        clear hpx
        go_wp2_with (fail)
        refine hcall.mono ?_
        rintro e w1 ⟨rfl, hb⟩
        have HB1 := Aside0.mk hb
        clear hb hcall
        go_wp2
        go_roundw
        case rel => exact ⟨k + 1, by omega, by go_num, ⟨fun j y hj hy => by
          rcases Nat.lt_or_ge j k with h | h
          · exact HQ.out j y h hy
          · obtain rfl : j = k := by omega
            rw [HX.out] at hy
            cases hy
            exact HPX.out⟩, ⟨below_step HB.out HB1.out⟩⟩
        case measure => simp [intOf]; omega
    · go_wp2
      obtain rfl : k = r.length := by omega
      go_ret
      exact ⟨ret_int (idxP_none (fun j y hy => HQ.out j y (List.getElem?_eq_some_iff.1 hy).1 hy)).symm, HB.out⟩
end Go.Proofs.Ytckempgpaojljaa.P
end
section
/- The contract of slices.DeleteFunc over rows of numbers, and of cost.Worth. -/
namespace Go.Proofs.Ytckempgpaojljaa.P
set_option linter.unusedVariables false
set_option linter.unusedSimpArgs false
open Go.RowKit Go.Proofs.YtckempgpaojljaaW.PrintWords Go.Proofs.YtckempgpaojljaaW.PrintLast Go.Proofs.YtckempgpaojljaaW.PrintMore
def DelPost (base : Nat) (w : World) (r : List (List Int)) (e : Ending) (w' : World) : Prop := ∃ v, e = .returned v ∧ RR w' base (fun _ => True) v r ∧ Below base w w'
structure DelInv (base : Nat) (w0 : World) (p : List Int → Bool) (g n cap : Nat) (r : List (List Int)) (i j : Nat) (W : World) : Prop where
  row : ∃ xs, RR W base (fun _ => True) (.slice (some ⟨g, 0, none⟩) n cap) xs ∧ xs.take i = (r.take j).filter (fun x => !p x) ∧ xs.drop j = r.drop j ∧ xs.length = r.length
  below : Below base w0 W
  lt : i < j
theorem filter_len {α : Type} {p : α → Bool} {r : List α} {k : Nat} {x : α} (hx : r[k]? = some x) : (r.take (k + 1)).filter p = (r.take k).filter p ++ if p x then [x] else [] := by
  rw [List.take_add_one, hx, List.filter_append, Option.toList_some, filter_one]
theorem blkOf {W : World} {base g n cap : Nat} {ok : Nat → Prop} {xs : List (List Int)} (h : RR W base ok (.slice (some ⟨g, 0, none⟩) n cap) xs) : base ≤ g ∧ g < W.heap.size := ⟨Kd.R_base h g rfl, Kd.R_lt h g rfl⟩
theorem zero26 : ∀ w, (zeroValue 26).run Try.prog w = .ok (.slice none 0 0) w := fun _ => by kernel_rfl
theorem idxP_spec (p : List Int → Bool) (r : List (List Int)) : (idxP p r = -1 ∧ ∀ x ∈ r, p x = false) ∨ ∃ (k : Nat) (x : List Int), idxP p r = (k : Int) ∧ r[k]? = some x ∧ p x = true ∧ ∀ (j : Nat) (y : List Int), j < k → r[j]? = some y → p y = false := by
  unfold idxP
  cases h : r.findIdx? p with
  | none => exact .inl ⟨rfl, fun x hx => by simpa using (List.findIdx?_eq_none_iff.1 h) x hx⟩
  | some k =>
    obtain ⟨hk, h1, h2⟩ := List.findIdx?_eq_some_iff_getElem.1 h
    refine .inr ⟨k, r[k], rfl, List.getElem?_eq_getElem hk, h1, fun j y hj hy => ?_⟩
    obtain ⟨hj', rfl⟩ := List.getElem?_eq_some_iff.1 hy
    simpa using h2 j hj
theorem del_none (F : FuncId) (hcf : ∀ args w, (callFunc F args).run Try.prog w = .ok (.enter F args) w) (b1 b2 : Nat) (p : List Int → Bool) (base : Nat) (w0 : World) (v : Value) (r : List (List Int)) (w : World) (hb : Below base w0 w) (hbs : base ≤ w.heap.size)
    (hr : RR w base (fun _ => True) v r) (hp : PredC F b1 b2 p base w0 r) (hno : ∀ x ∈ r, p x = false) (hix : idxP p r = -1) :
    Calls Try.prog 57 #[v, .func (.func F) #[] #[.pointer (some ⟨b1, 0, none⟩), .pointer (some ⟨b2, 0, none⟩)]] w (DelPost base w0 (r.filter fun x => !p x)) := by
  have hf : (r.filter fun x => !p x) = r := List.filter_eq_self.2 (fun x hx => by rw [hno x hx]; rfl)
  rw [hf]
  obtain ⟨A, c, rfl, hc, hC⟩ := Kd.R_reads hr
  have hcon := idx66 F hcf b1 b2 p base w0 A c r w hb hbs hC hc hp
  rw [hix] at hcon
  have HCON := Aside0.mk hcon
  have HR := Aside0.mk hr
  have HW := Aside0.mk hb
  clear hcon hr hp hb hC hno hf
  go_enter Try.func57, Try.ntmps57
  go_wp2_with (fail)
  refine HCON.out.mono ?_
  rintro e w1 ⟨rfl, hb⟩
  have HB := Aside0.mk hb
  clear hb
  go_wp2
  go_ret
  exact ⟨_, rfl, Kd.R_below HR.out HB.out, HW.out.trans (HB.out.mono hbs)⟩
set_option maxRecDepth 100000 in
set_option maxHeartbeats 4000000 in
theorem del_some (F : FuncId) (hcf : ∀ args w, (callFunc F args).run Try.prog w = .ok (.enter F args) w) (b1 b2 : Nat) (p : List Int → Bool) (base : Nat) (w0 : World) (g cap : Nat) (r : List (List Int)) (w : World) (hb : Below base w0 w) (hbs : base ≤ w.heap.size)
    (hr : RR w base (fun _ => True) (.slice (some ⟨g, 0, none⟩) r.length cap) r) (hp : PredC F b1 b2 p base w0 r) (k0 : Nat) (x0 : List Int) (hx0 : r[k0]? = some x0) (hp0 : p x0 = true) (hno : ∀ (j : Nat) (y : List Int), j < k0 → r[j]? = some y → p y = false) (hix : idxP p r = k0) :
    Calls Try.prog 57 #[.slice (some ⟨g, 0, none⟩) r.length cap, .func (.func F) #[] #[.pointer (some ⟨b1, 0, none⟩), .pointer (some ⟨b2, 0, none⟩)]] w (DelPost base w0 (r.filter fun x => !p x)) := by
  obtain ⟨hc, hC⟩ : r.length ≤ cap ∧ Kd.C (Kd.slice 3 (Kd.int .i64)) w (some ⟨g, 0, none⟩) r.length r := by
    obtain ⟨_, h1, h2⟩ := Kd.R_reads' hr
    exact ⟨h1, h2⟩
  have hl : r.length ≤ 9223372036854775807 := hC.2.1
  have hk0 : k0 < r.length := (List.getElem?_eq_some_iff.1 hx0).1
  have hcon := idx66 F hcf b1 b2 p base w0 (some ⟨g, 0, none⟩) cap r w hb hbs hC hc hp
  rw [hix] at hcon
  have hi0 : ∀ w1, Below w.heap.size w w1 → DelInv base w0 p g r.length cap r k0 (k0 + 1) w1 := fun w1 h1 => by
    refine ⟨⟨r, Kd.R_below hr h1, ?_, rfl, rfl⟩, hb.trans (h1.mono hbs), by omega⟩
    rw [filter_len hx0, hp0]
    simp only [Bool.not_true, Bool.false_eq_true, if_false, List.append_nil]
    refine (List.filter_eq_self.2 (fun x hx => ?_)).symm
    obtain ⟨j, hj, rfl⟩ := List.getElem_of_mem hx
    rw [hno j _ (Nat.lt_of_lt_of_le (by simpa using hj : j < min k0 r.length) (Nat.min_le_left _ _)) (by simp [List.getElem_take])]
    rfl
  have HI0 := Aside0.mk hi0
  have HCON := Aside0.mk hcon
  have HP := Aside0.mk hp
  clear hcon hr hp hb hC hno hix hi0 hx0 hp0
  go_enter Try.func57, Try.ntmps57
  go_wp2_with (fail)
  refine HCON.out.mono ?_
  rintro e w1 ⟨rfl, hb⟩
  have HB := Aside0.mk (HI0.out w1 hb)
  clear hb HI0 HCON
  go_wp2
  go_loopg [5, 6] r.length (fun gk v5 v6 w' => ∃ i j : Nat, v5 = .int .i64 i ∧ v6 = .int .i64 j ∧ j ≤ r.length ∧ r.length - j ≤ gk ∧ Aside0 (DelInv base w0 p g r.length cap r i j w'))
  case atStart => exact ⟨k0, k0 + 1, rfl, by go_num, by omega, by omega, HB⟩
  case round =>
    clear HB
    obtain ⟨i, j, rfl, rfl, hj, hgk, HI⟩ := hrel
    have hij := HI.out.lt
    obtain ⟨xs, hxr, ht, hd, hxl⟩ := HI.out.row
    have HXR := Aside0.mk hxr
    have HT := Aside0.mk ht
    have HD := Aside0.mk hd
    clear hxr ht hd
    by_cases hlt : j < r.length
    · obtain ⟨gk, rfl⟩ : ∃ m, gk = m + 1 := ⟨gk - 1, by omega⟩
      obtain ⟨x, hx⟩ : ∃ x, r[j]? = some x := ⟨_, List.getElem?_eq_getElem hlt⟩
      have hxj : xs[j]? = some x := by
        have := congrArg (fun l => l[0]?) HD.out
        simp only [List.getElem?_drop, Nat.add_zero] at this
        rw [this, hx]
      obtain ⟨u, h0, hfz, hu⟩ := rr_get HXR.out j hlt
      rw [show xs.getD j [] = x by simp [List.getD_eq_getElem?_getD, hxj]] at hu
      obtain ⟨A0, c0, ex, hxc, hxC⟩ := Kd.R_reads hu
      subst ex
      obtain ⟨u', h0', hfz', _⟩ := rr_get HXR.out i (by omega)
      have hcall := HP.out x (List.mem_of_getElem? hx) A0 c0 _ HI.out.below hxC hxc
      have HX := Aside0.mk hx
      have HXJ := Aside0.mk hxj
      have HU := Aside0.mk hu
      clear hx hxj hu hxC h0'
      cases hpx : p x with
      | true =>
        rw [hpx] at hcall
        have HPX := Aside0.mk hpx
        clear hpx hfz hfz'
        go_wp2_with (fail)
        refine hcall.mono ?_
        rintro e w2 ⟨rfl, hb⟩
        have hn : DelInv base w0 p g r.length cap r i (j + 1) w2 := by
          refine ⟨⟨xs, Kd.R_below HXR.out hb, ?_, ?_, hxl⟩, HI.out.below.trans (hb.mono (Nat.le_of_lt (Nat.lt_of_le_of_lt (blkOf HXR.out).1 (blkOf HXR.out).2))), by omega⟩
          · rw [filter_len HX.out, HPX.out, HT.out]; simp
          · have := congrArg (fun l => l.drop 1) HD.out
            simpa only [List.drop_drop, Nat.add_comm] using this
        have HN := Aside0.mk hn
        clear hb hcall hn
        go_wp2
        go_roundg gk
        case measure => omega
        case rel => exact ⟨i, j + 1, rfl, by go_num, by omega, by omega, HN⟩
      | false =>
        rw [hpx] at hcall
        have HPX := Aside0.mk hpx
        clear hpx hfz hfz'
        go_wp2_with (fail)
        refine hcall.mono ?_
        rintro e w2 ⟨rfl, hb⟩
        have HB2 := Aside0.mk hb
        have hxr2 := Kd.R_below HXR.out hb
        have hu2 := Kd.R_below HU.out hb
        obtain ⟨u2, hce, hfz2, _⟩ := rr_get hxr2 i (by omega)
        obtain ⟨hput, hgr⟩ := rr_put hxr2 i (by omega) hu2
        have hbl := HI.out.below.trans (hb.mono (Nat.le_of_lt (Nat.lt_of_le_of_lt (blkOf HXR.out).1 (blkOf HXR.out).2)))
        have hn : DelInv base w0 p g r.length cap r (i + 1) (j + 1) (w2.setCell ⟨g, i, none⟩ (.slice A0 x.length c0)) := by
          refine ⟨⟨_, hput, ?_, ?_, by simp [hxl]⟩, hbl.grown hgr (Nat.le_of_lt (Nat.lt_of_le_of_lt (blkOf hxr2).1 (blkOf hxr2).2)) (fun k hk => by injection hk with hk; subst hk; exact (blkOf hxr2).1), by omega⟩
          · rw [filter_len HX.out, HPX.out, ← HT.out, List.take_add_one, List.getElem?_set_self (by omega), List.take_set_of_le (Nat.le_refl _)]
            simp
          · have := congrArg (fun l => l.drop 1) HD.out
            simp only [List.drop_drop] at this
            rw [List.drop_set_of_lt (by omega)]
            simpa only [Nat.add_comm] using this
        have HN := Aside0.mk hn
        clear hb hcall hn hput hgr hbl hxr2 hu2 h0
        go_wp2
        go_roundg gk
        case measure => omega
        case rel => exact ⟨i + 1, j + 1, by go_num, by go_num, by omega, by omega, HN⟩
    · obtain rfl : j = r.length := by omega
      have hfz : ∀ t, t < r.length - i → _root_.Go.World.frozen? wr ⟨g, i + t, none⟩ = false := fun t ht => by
        obtain ⟨_, _, h, _⟩ := rr_get HXR.out (i + t) (by omega)
        exact h
      have hce : ∀ t, t < r.length - i → (_root_.Go.World.cell? wr ⟨g, i + t, none⟩).isSome = true := fun t ht => by
        obtain ⟨_, h, _, _⟩ := rr_get HXR.out (i + t) (by omega)
        rw [h]; rfl
      have hcl : ∀ ty, (Builtin.clear_ #[24] ty #[.slice (some ⟨g, i, none⟩) (r.length - i) (cap - i)]).run Try.prog wr = .ok (.tuple #[]) (_root_.Go.World.setCells wr g i (List.replicate (r.length - i) (.slice none 0 0))) :=
        fun ty => Lib.run_clear_slice wr 24 26 ty (.slice none 0 0) Try.underlying24 zero26 rfl rfl g i _ _ (by omega) hce hfz
      obtain ⟨xs', h1, h2, h3⟩ := rr_clear (r.length - i) i HXR.out (by omega)
      have hpost : RR (_root_.Go.World.setCells wr g i (List.replicate (r.length - i) (.slice none 0 0))) base (fun _ => True) (.slice (some ⟨g, 0, none⟩) i cap) (r.filter fun x => !p x) := by
        have := Kd.R_take h1 (m := i) (by have := (Kd.R_reads' h1).1; omega)
        rw [h2, HT.out, List.take_of_length_le (Nat.le_refl _)] at this
        exact this
      have hbl := HI.out.below.grown h3 (Nat.le_of_lt (Nat.lt_of_le_of_lt (blkOf HXR.out).1 (blkOf HXR.out).2)) (fun k hk => by injection hk with hk; subst hk; exact (blkOf HXR.out).1)
      have HPOST := Aside0.mk hpost
      have HBL := Aside0.mk hbl
      clear hpost hbl h1 h2 h3 hfz hce
      go_wp2
      go_ret
      exact ⟨_, rfl, HPOST.out, HBL.out⟩
end Go.Proofs.Ytckempgpaojljaa.P
end
section
/- The contract of cost.Worth. -/
namespace Go.Proofs.Ytckempgpaojljaa.P
set_option linter.unusedVariables false
set_option linter.unusedSimpArgs false
open Go.RowKit Go.Proofs.YtckempgpaojljaaW.PrintWords Go.Proofs.YtckempgpaojljaaW.PrintLast Go.Proofs.YtckempgpaojljaaW.PrintMore
def mrg (l : List S59) (g : List Int) : Int := if validL l && okG l.length g then mergeN l g else 0
def mrgE (l : List S59) (g : List Int) : Int := if validL l && okG l.length g then 0 else 1
theorem merge39 (A B : Option Addr) (c d : Nat) (l : List S59) (g : List Int) (w : World) (hr : Kd.C k59 w A l.length l) (hc : l.length ≤ c) (hg : Kd.C (Kd.int .i64) w B g.length g) (hd : g.length ≤ d) :
    Calls Try.prog 39 #[.slice A l.length c, .slice B g.length d] w fun e w' => e = .returned (.tuple #[.int .i64 (mrg l g), .int .i64 (mrgE l g)]) ∧ Below w.heap.size w w' :=
  cost_Merge.calls A c l B d g _ _ w hr hc hg hd (by unfold cost_Merge.f mrg mrgE; split <;> rfl)
def poor (l : List S59) (reads : Int) (g : List Int) : Bool := decide (reads * 4096 * ((g.length : Int) - 1) ≤ mrg l g)
theorem mrg_bd {l : List S59} {g : List Int} (hv : validL l = true) : 0 ≤ mrg l g ∧ mrg l g ≤ 2000000000000 := by
  obtain ⟨hl5, hm⟩ := valid_mem hv
  unfold mrg
  split
  · rename_i h
    simp only [Bool.and_eq_true] at h
    obtain ⟨hg0, hgl⟩ := okG_len h.2
    have := psum_bd (mrgF l) g 3000000000 (fun i hi => by
      have hii := okG_bd h.2 i hi
      have := hm _ (rd_mem hii.1 hii.2)
      unfold mrgF
      omega) g.length (Nat.le_refl _)
    rw [psum_all] at this
    unfold mergeN sumG
    omega
  · omega
theorem mul_bd {a b B C : Int} (ha : 0 ≤ a) (hb : 0 ≤ b) (hA : a ≤ B) (hB : b ≤ C) (hB0 : 0 ≤ B) : 0 ≤ a * b ∧ a * b ≤ B * C := ⟨Int.mul_nonneg ha hb, Int.mul_le_mul hA hB hb hB0⟩
theorem pred56 (A : Option Addr) (c : Nat) (l : List S59) (reads : Int) (b1 b2 base : Nat) (w0 : World) (r : List (List Int)) (hb1 : w0.heap[b1]? = some (.cells #[.slice A l.length c] 30 (0, 0))) (hb2 : w0.heap[b2]? = some (.cells #[.int .i64 reads] 3 (0, 0)))
    (h1 : b1 < base) (h2 : b2 < base) (hr : ∀ W, Below base w0 W → Kd.C k59 W A l.length l) (hc : l.length ≤ c) (hv : validL l = true) (hr0 : 0 ≤ reads) (hr1 : reads ≤ 1000000000) (hlen : ∀ x ∈ r, 0 < x.length ∧ x.length ≤ 1000) :
    PredC 56 b1 b2 (poor l reads) base w0 r := by
  intro x hx B d W hW hxC hxc
  obtain ⟨hx0, hx1⟩ := hlen x hx
  have hbox1 := (hW.block b1 h1).trans hb1
  have hbox2 := (hW.block b2 h2).trans hb2
  have hcon := merge39 A B c d l x W (hr W hW) hc hxC hxc
  have hbd := mrg_bd (g := x) hv
  have hpr : poor l reads x = decide (reads * 4096 * ((x.length : Int) - 1) ≤ mrg l x) := rfl
  have HPR := Aside0.mk hpr
  have HCON := Aside0.mk hcon
  have HX1 := Aside0.mk hbox1
  have HX2 := Aside0.mk hbox2
  have hcell := hq_cell hbox1 0 _ rfl
  simp only [List.getElem_toArray, List.getElem_cons_zero] at hcell
  have hmul := mul_bd (a := reads * 4096) (b := (x.length : Int) - 1) (B := 1000000000 * 4096) (C := 1000) (by omega) (by omega) (by omega) (by omega) (by omega)
  have e1 : reads * 4096 = 4096 * reads := Int.mul_comm _ _
  have HE := Aside0.mk hmul
  clear hcon hbox1 hbox2 hpr hb1 hb2 hxC hx hlen hW hr hmul e1
  generalize mrgE l x = y at HCON
  generalize poor l reads x = ans at HPR ⊢
  generalize mrg l x = m at *
  obtain ⟨m0, m1⟩ := hbd
  go_enter Try.func56, Try.ntmps56
  go_wp2_with (fail)
  refine HCON.out.mono ?_
  rintro e w1 ⟨rfl, hb⟩
  have hcell2 := hq_cell ((hb.block _ (hq_lt HX2.out)).trans HX2.out) 0 _ rfl
  simp only [List.getElem_toArray, List.getElem_cons_zero] at hcell2
  have HB := Aside0.mk hb
  clear hb hcell
  obtain ⟨z0, z1⟩ := HE.out
  go_wp2
  go_ret
  exact ⟨ret_bool HPR.out.symm, HB.out⟩
theorem iterC_ok (n : Nat) : ∀ (cs : List (List Int × Int)), OkC cs → OkC (iterC n cs) := by
  induction n with
  | zero => intro cs h; exact h
  | succ n ih =>
    intro cs h
    unfold iterC
    cases hs : stepC cs with
    | none => exact h
    | some cs' => exact ih cs' (stepC_ok h hs).1
theorem choose_len {l : List S59} (hv : validL l = true) : ∀ g ∈ choose l, 1 < g.length ∧ g.length ≤ 1000 := by
  intro g hg
  have hok := iterC_ok l.length _ (startC_ok hv)
  unfold choose groupsC at hg
  obtain ⟨c, hc, rfl⟩ := List.mem_map.1 hg
  obtain ⟨hc, h1⟩ := List.mem_filter.1 hc
  rw [sortI_length]
  refine ⟨by simpa using h1, ?_⟩
  have h2 := hok.sumL
  obtain ⟨k, hk, e⟩ := List.getElem_of_mem hc
  have h3 := sum_ge ((iterC l.length (startC l)).map fun c => (c.1.length : Int)) (by
    intro z hz
    obtain ⟨c, hc, rfl⟩ := List.mem_map.1 hz
    omega) k (by simpa using hk)
  have e2 : ((iterC l.length (startC l)).map fun c => (c.1.length : Int)).getD k 0 = (c.1.length : Int) := by simp [List.getD_eq_getElem?_getD, hk, e]
  omega
def worthL (l : List S59) (reads : Int) : List (List Int) := (choose l).filter fun g => !poor l reads g
theorem alloc_size (w : World) (o : Obj) : (w.alloc o).heap.size = w.heap.size + 1 := by
  show (w.heap.push o).size = _
  simp
theorem two_new (w : World) (o1 o2 : Obj) : ((w.alloc o1).alloc o2).heap[w.heap.size]? = some o1 ∧ ((w.alloc o1).alloc o2).heap[w.heap.size + 1]? = some o2 ∧ ((w.alloc o1).alloc o2).heap.size = w.heap.size + 2 := by
  refine ⟨?_, ?_, by rw [alloc_size, alloc_size]⟩
  · rw [heap_alloc_old (w.alloc o1) o2 (by rw [alloc_size]; omega)]
    exact heap_alloc_new w o1
  · have := heap_alloc_new (w.alloc o1) o2
    rwa [alloc_size] at this
set_option maxHeartbeats 1000000 in
theorem worth_bad1 (A : Option Addr) (c : Nat) (l : List S59) (reads : Int) (w : World) (hr : Kd.C k59 w A l.length l) (hc : l.length ≤ c) (hv : validL l = false) : Calls Try.prog 40 #[.slice A l.length c, .int .i64 reads] w (ChPost w [] 1) := by
  have HR := Aside0.mk hr
  have HV := Aside0.mk hv
  clear hr hv
  go_enter Try.func40, Try.ntmps40
  go_wp2_with (fail)
  obtain ⟨n1, n2, ns⟩ := two_new w (.cells #[.slice A l.length c] 30 (0, 0)) (.cells #[.int .i64 reads] 3 (0, 0))
  have HB1 : Aside0 (Below w.heap.size w ((w.alloc (.cells #[.slice A l.length c] 30 (0, 0))).alloc (.cells #[.int .i64 reads] 3 (0, 0)))) := ⟨((Below.refl _ _).alloc (Nat.le_refl _) _).alloc (by rw [alloc_size]; omega) _⟩
  have hcon := choose_bad A c l _ (Kd.C_below HR.out HB1.out) hc HV.out
  refine hcon.mono ?_
  rintro e w1 ⟨v, rfl, hR, hb⟩
  have HB2 := Aside0.mk (below_step HB1.out hb)
  clear hb hcon n1 n2 ns hR
  go_wp2
  go_ret2
  exact ⟨_, rfl, Kd.R_nil _ _ _ _ _, HB2.out⟩
set_option maxHeartbeats 1000000 in
theorem worth_bad2 (A : Option Addr) (c : Nat) (l : List S59) (reads : Int) (w : World) (hr : Kd.C k59 w A l.length l) (hc : l.length ≤ c) (hv : validL l = true) (ho : reads < 0 ∨ 1000000000 < reads) : Calls Try.prog 40 #[.slice A l.length c, .int .i64 reads] w (ChPost w [] 1) := by
  have HR := Aside0.mk hr
  have HV := Aside0.mk hv
  clear hr hv
  go_enter Try.func40, Try.ntmps40
  go_wp2_with (fail)
  obtain ⟨n1, n2, ns⟩ := two_new w (.cells #[.slice A l.length c] 30 (0, 0)) (.cells #[.int .i64 reads] 3 (0, 0))
  have HB1 : Aside0 (Below w.heap.size w ((w.alloc (.cells #[.slice A l.length c] 30 (0, 0))).alloc (.cells #[.int .i64 reads] 3 (0, 0)))) := ⟨((Below.refl _ _).alloc (Nat.le_refl _) _).alloc (by rw [alloc_size]; omega) _⟩
  have hcon := choose_good A c l _ (Kd.C_below HR.out HB1.out) hc HV.out
  refine hcon.mono ?_
  rintro e w1 ⟨v, rfl, hR, hb⟩
  have HB2 := Aside0.mk (below_step HB1.out hb)
  have hcell := hq_cell ((hb.block _ (by rw [ns]; omega)).trans n2) 0 _ rfl
  simp only [List.getElem_toArray, List.getElem_cons_zero] at hcell
  clear hb hcon n1 n2 ns hR
  by_cases h0 : reads < 0
  · go_wp2
    go_ret2
    exact ⟨_, rfl, Kd.R_nil _ _ _ _ _, HB2.out⟩
  · have h1 : 1000000000 < reads := by omega
    go_wp2
    go_ret2
    exact ⟨_, rfl, Kd.R_nil _ _ _ _ _, HB2.out⟩
theorem fn56 : ∀ args w, (callFunc 56 args).run Try.prog w = .ok (.enter 56 args) w := fun _ _ => rfl
theorem del57 (F : FuncId) (hcf : ∀ args w, (callFunc F args).run Try.prog w = .ok (.enter F args) w) (b1 b2 : Nat) (p : List Int → Bool) (base : Nat) (w0 : World) (v : Value) (r : List (List Int)) (w : World) (hb : Below base w0 w) (hbs : base ≤ w.heap.size)
    (hr : RR w base (fun _ => True) v r) (hp : PredC F b1 b2 p base w0 r) :
    Calls Try.prog 57 #[v, .func (.func F) #[] #[.pointer (some ⟨b1, 0, none⟩), .pointer (some ⟨b2, 0, none⟩)]] w (DelPost base w0 (r.filter fun x => !p x)) := by
  rcases idxP_spec p r with ⟨h1, h2⟩ | ⟨k, x, h1, h2, h3, h4⟩
  · exact del_none F hcf b1 b2 p base w0 v r w hb hbs hr hp h2 h1
  · have hpos : 0 < r.length := Nat.lt_of_le_of_lt (Nat.zero_le _) (List.getElem?_eq_some_iff.1 h2).1
    obtain ⟨g, cap, rfl, _⟩ := Kd.R_form hr hpos
    exact del_some F hcf b1 b2 p base w0 g cap r w hb hbs hr hp k x h2 h3 h4 h1
set_option maxHeartbeats 1000000 in
theorem worth_good (A : Option Addr) (c : Nat) (l : List S59) (reads : Int) (w : World) (hr : Kd.C k59 w A l.length l) (hc : l.length ≤ c) (hv : validL l = true) (h0 : 0 ≤ reads) (h1 : reads ≤ 1000000000) : Calls Try.prog 40 #[.slice A l.length c, .int .i64 reads] w (ChPost w (worthL l reads) 0) := by
  have HR := Aside0.mk hr
  have HV := Aside0.mk hv
  clear hr hv
  go_enter Try.func40, Try.ntmps40
  go_wp2_with (fail)
  obtain ⟨n1, n2, ns⟩ := two_new w (.cells #[.slice A l.length c] 30 (0, 0)) (.cells #[.int .i64 reads] 3 (0, 0))
  have HB1 : Aside0 (Below w.heap.size w ((w.alloc (.cells #[.slice A l.length c] 30 (0, 0))).alloc (.cells #[.int .i64 reads] 3 (0, 0)))) := ⟨((Below.refl _ _).alloc (Nat.le_refl _) _).alloc (by rw [alloc_size]; omega) _⟩
  have hcon := choose_good A c l _ (Kd.C_below HR.out HB1.out) hc HV.out
  refine hcon.mono ?_
  rintro e w1 ⟨v, rfl, hR, hb⟩
  have HB2 := Aside0.mk (below_step HB1.out hb)
  have HX1 := Aside0.mk ((hb.block _ (by rw [ns]; omega)).trans n1)
  have HX2 := Aside0.mk ((hb.block _ (by rw [ns]; omega)).trans n2)
  have hcell := hq_cell HX2.out 0 _ rfl
  simp only [List.getElem_toArray, List.getElem_cons_zero] at hcell
  have hpred := pred56 A c l reads w.heap.size (w.heap.size + 1) (w.heap.size + 2) w1 (choose l) HX1.out HX2.out (by omega) (by omega) (fun W hW => Kd.C_below HR.out (HB2.out.trans (hW.mono (by omega)))) hc HV.out h0 h1 (fun x hx => by have := choose_len HV.out x hx; omega)
  rw [ns] at hR
  have hdel := del57 56 fn56 w.heap.size (w.heap.size + 1) (poor l reads) (w.heap.size + 2) w1 v (choose l) w1 (Below.refl _ _) (by have := hb.size; omega) hR hpred
  have HDEL := Aside0.mk hdel
  clear hb hcon n1 n2 ns hR hpred hdel
  go_wp2_with (fail)
  refine HDEL.out.mono ?_
  rintro e w2 ⟨v2, rfl, hR, hb⟩
  have HB3 := Aside0.mk (HB2.out.trans (hb.mono (by omega)))
  have HR2 := Aside0.mk hR
  clear hb hR
  go_wp2
  go_ret2
  exact ⟨_, rfl, Kd.R_lower HR2.out (by omega), HB3.out⟩
def cost_Worth.f (l0 : List S59) (a1 : Int) : Option (List (List Int) × Int) := if validL l0 && (decide (0 ≤ a1) && decide (a1 ≤ 1000000000)) then some (worthL l0 a1, 0) else some ([], 1)
theorem cost_Worth.calls (A0 : Option Addr) (c0 : Nat) (l0 : List S59) (a1 : Int) (r1 : List (List Int)) (r2 : Int) (w : World) (hr0 : Kd.C k59 w A0 l0.length l0) (hc0 : l0.length ≤ c0) (h : cost_Worth.f l0 a1 = some (r1, r2)) :
    Calls Try.prog 40 #[.slice A0 l0.length c0, .int .i64 a1] w fun e w' => ∃ v0_ : Value, e = .returned (.tuple #[v0_, .int .i64 r2]) ∧ Kd.R (Kd.slice 3 (Kd.int .i64)) 26 w' w.heap.size (fun _ => True) v0_ r1 ∧ Below w.heap.size w w' := by
  unfold cost_Worth.f at h
  cases hv : validL l0 with
  | true =>
    by_cases hz : 0 ≤ a1 ∧ a1 ≤ 1000000000
    · rw [hv, if_pos (by simp [hz])] at h
      injection h with h
      injection h with h1 h2
      subst h1 h2
      exact worth_good A0 c0 l0 a1 w hr0 hc0 hv hz.1 hz.2
    · rw [hv, if_neg (by simp; omega)] at h
      injection h with h
      injection h with h1 h2
      subst h1 h2
      exact worth_bad2 A0 c0 l0 a1 w hr0 hc0 hv (by omega)
  | false =>
    rw [hv] at h
    injection h with h
    injection h with h1 h2
    subst h1 h2
    exact worth_bad1 A0 c0 l0 a1 w hr0 hc0 hv
end Go.Proofs.Ytckempgpaojljaa.P
end
section
/- The contract of cost.After. -/
namespace Go.Proofs.Ytckempgpaojljaa.P
set_option linter.unusedVariables false
set_option linter.unusedSimpArgs false
open Go.RowKit Go.Proofs.YtckempgpaojljaaW.PrintWords Go.Proofs.YtckempgpaojljaaW.PrintLast Go.Proofs.YtckempgpaojljaaW.PrintMore
def claim1 (g : List Int) : List Int → List (List Int) → Option (List (List Int))
  | [], ow => some ow
  | i :: is, ow => if (ow.getD i.toNat []).isEmpty then claim1 g is (ow.set i.toNat g) else none
def owners (n : Nat) : List (List Int) → List (List Int) → Option (List (List Int))
  | [], ow => some ow
  | g :: G, ow => if okG n g then (match claim1 g g ow with
    | none => none
    | some ow' => owners n G ow') else none
def aftP (l : List S59) (ow : List (List Int)) (k : Nat) : List S59 :=
  if (ow.getD k []).isEmpty then [rd_T59 l k]
  else if (ow.getD k []).getD 0 0 = (k : Int) then [⟨sumG (fun i => (rd_T59 l i).f0) (ow.getD k []), sumG (fun i => (rd_T59 l i).f1) (ow.getD k [])⟩] else []
def aftK (l : List S59) (ow : List (List Int)) (k : Nat) : List S59 := (List.range k).flatMap (aftP l ow)
def afterL (l : List S59) (G : List (List Int)) : Option (List S59) := (owners l.length G (List.replicate l.length [])).map fun ow => aftK l ow l.length
theorem aftK_succ (l : List S59) (ow : List (List Int)) (k : Nat) : aftK l ow (k + 1) = aftK l ow k ++ aftP l ow k := by
  simp [aftK, List.range_succ]
theorem aftP_len (l : List S59) (ow : List (List Int)) (k : Nat) : (aftP l ow k).length ≤ 1 := by
  unfold aftP
  split
  · simp
  · split <;> simp
theorem aftK_len (l : List S59) (ow : List (List Int)) (k : Nat) : (aftK l ow k).length ≤ k := by
  induction k with
  | zero => simp [aftK]
  | succ k ih =>
    rw [aftK_succ, List.length_append]
    have := aftP_len l ow k
    omega
structure OwI (w : World) (A : Option Addr) (c : Nat) (l : List S59) (o : Nat) (ow : List (List Int)) (W : World) : Prop where
  lo : w.heap.size < o
  len : ow.length = l.length
  blk : ∃ cur : Array Value, W.heap[o]? = some (.cells cur 26 (0, 0)) ∧ cur.size = l.length ∧ ∀ (i : Nat) (x : List Int), ow[i]? = some x → ∃ (B : Option Addr) (d : Nat), cur[i]? = some (.slice B x.length d) ∧ B.isNone = x.isEmpty ∧ x.length ≤ d ∧ Kd.C (Kd.int .i64) w B x.length x
  box : W.heap[w.heap.size]? = some (.cells #[.slice A l.length c] 30 (0, 0))
  below : Below w.heap.size w W
  val : ∀ (i : Nat) (x : List Int), ow[i]? = some x → x = [] ∨ okG l.length x = true
theorem OwI.step {w : World} {A : Option Addr} {c : Nat} {l : List S59} {o : Nat} {ow : List (List Int)} {W W' : World} (h : OwI w A c l o ow W) (hb : Below W.heap.size W W') : OwI w A c l o ow W' := by
  obtain ⟨cur, h1, h2, h3⟩ := h.blk
  exact ⟨h.lo, h.len, ⟨cur, (hb.block _ (hq_lt h1)).trans h1, h2, h3⟩, (hb.block _ (hq_lt h.box)).trans h.box, h.below.trans (hb.mono h.below.size), h.val⟩
theorem OwI.get {w : World} {A : Option Addr} {c : Nat} {l : List S59} {o : Nat} {ow : List (List Int)} {W : World} (h : OwI w A c l o ow W) {i : Nat} (hi : i < l.length) :
    ∃ (B : Option Addr) (d : Nat), W.cell? ⟨o, i, none⟩ = some (.slice B (ow.getD i []).length d) ∧ W.frozen? ⟨o, i, none⟩ = false ∧ B.isNone = (ow.getD i []).isEmpty ∧ (ow.getD i []).length ≤ d ∧ Kd.C (Kd.int .i64) w B (ow.getD i []).length (ow.getD i []) := by
  obtain ⟨cur, h1, h2, h3⟩ := h.blk
  have hx : ow[i]? = some (ow.getD i []) := by simp [List.getD_eq_getElem?_getD, h.len, hi]
  obtain ⟨B, d, h4, h5, h6, h7⟩ := h3 i _ hx
  exact ⟨B, d, hq_cell h1 i _ h4, blk_free h1 i, h5, h6, h7⟩
theorem OwI.put {w : World} {A : Option Addr} {c : Nat} {l : List S59} {o : Nat} {ow : List (List Int)} {W : World} (h : OwI w A c l o ow W) {i : Nat} (hi : i < l.length) {B : Option Addr} {d : Nat} {g : List Int} (h0 : B.isNone = g.isEmpty) (h1 : g.length ≤ d) (h2 : Kd.C (Kd.int .i64) w B g.length g) (h3 : okG l.length g = true) :
    OwI w A c l o (ow.set i g) (W.setCell ⟨o, i, none⟩ (.slice B g.length d)) := by
  obtain ⟨cur, e1, e2, e3⟩ := h.blk
  have e4 : (W.setCell ⟨o, i, none⟩ (.slice B g.length d)).heap[o]? = some (.cells (cur.setIfInBounds i (.slice B g.length d)) 26 (0, 0)) := heap_set_same W o i _ cur 26 e1
  refine ⟨h.lo, by simp [h.len], ⟨_, e4, by simp [e2], fun j x hx => ?_⟩, ?_, ?_, ?_⟩
  · rw [List.getElem?_set] at hx
    split at hx
    · rename_i e
      subst e
      split at hx
      · cases hx
        exact ⟨B, d, by simp [e2, hi], h0, h1, h2⟩
      · cases hx
    · rename_i e
      obtain ⟨B', d', h4, h5⟩ := e3 j x hx
      exact ⟨B', d', by rw [Array.getElem?_setIfInBounds_ne e]; exact h4, h5⟩
  · rw [Below.heap_setCell W ⟨o, i, none⟩ _ _ (by have := h.lo; show w.heap.size ≠ o; omega)]
    exact h.box
  · exact h.below.setCell (p := ⟨o, i, none⟩) (Nat.le_of_lt h.lo) _
  · intro j x hx
    rw [List.getElem?_set] at hx
    split at hx
    · split at hx
      · cases hx
        exact .inr h3
      · cases hx
    · exact h.val j x hx
theorem clo53 (A : Option Addr) (c : Nat) (l : List S59) (b : Nat) (i : Int) (W : World) (hb : W.heap[b]? = some (.cells #[.slice A l.length c] 30 (0, 0))) (hr : Kd.C k59 W A l.length l) (hc : l.length ≤ c) (hi : 0 ≤ i ∧ i < l.length) :
    Calls Try.prog 53 #[.int .i64 i, .pointer (some ⟨b, 0, none⟩)] W fun e W' => e = .returned (.int .i64 (rd_T59 l i).f0) ∧ W' = W := by
  obtain ⟨ad, rfl, h0, h1⟩ := at_T59 hr i hi.1 hi.2
  have hl : l.length ≤ 9223372036854775807 := hr.2.1
  have hcell := hq_cell hb 0 _ rfl
  obtain ⟨hi0, hi1⟩ := hi
  clear hb hr
  generalize (rd_T59 l i).f0 = y at *
  go_enter Try.func53, Try.ntmps53
  go_wp2
  go_ret
  exact ⟨rfl, rfl⟩
theorem clo54 (A : Option Addr) (c : Nat) (l : List S59) (b : Nat) (i : Int) (W : World) (hb : W.heap[b]? = some (.cells #[.slice A l.length c] 30 (0, 0))) (hr : Kd.C k59 W A l.length l) (hc : l.length ≤ c) (hi : 0 ≤ i ∧ i < l.length) :
    Calls Try.prog 54 #[.int .i64 i, .pointer (some ⟨b, 0, none⟩)] W fun e W' => e = .returned (.int .i64 (rd_T59 l i).f1) ∧ W' = W := by
  obtain ⟨ad, rfl, h0, h1⟩ := at_T59 hr i hi.1 hi.2
  have hl : l.length ≤ 9223372036854775807 := hr.2.1
  have hcell := hq_cell hb 0 _ rfl
  obtain ⟨hi0, hi1⟩ := hi
  clear hb hr
  generalize (rd_T59 l i).f1 = y at *
  go_enter Try.func54, Try.ntmps54
  go_wp2
  go_ret
  exact ⟨rfl, rfl⟩
def AfPost (w : World) (r : Option (List S59)) (e : Ending) (w' : World) : Prop := ∃ v, e = .returned (.tuple #[v, .int .i64 (if r.isSome then 0 else 1)]) ∧ Kd.R k59 59 w' w.heap.size (fun _ => True) v (r.getD []) ∧ Below w.heap.size w w'
theorem AfPost.cast {w : World} {r r' : Option (List S59)} {e : Ending} {w' : World} (h : r = r') (H : AfPost w r' e w') : AfPost w r e w' := h ▸ H
theorem neq26 (a : Option Addr) (n c : Nat) (w : World) : (binOp .neq 26 (.slice a n c) (.slice none 0 0)).run Try.prog w = .ok (.bool (!a.isNone)) w := run_neq_slice_nil w 26 3 a n c Try.underlying26
theorem eql26 (a : Option Addr) (n c : Nat) (w : World) : (binOp .eql 26 (.slice a n c) (.slice none 0 0)).run Try.prog w = .ok (.bool a.isNone) w := by
  simp only [binOp]
  simp [run_equal_slice_nil w 26 3 a n c Try.underlying26]
theorem make26 (n : Nat) (hn : n ≤ 512) (w : World) : (Instr.makeSlice 24 (.int .i64 n) (.int .i64 n)).run Try.prog w = .ok (.slice (some ⟨w.heap.size, 0, none⟩) n n) (w.alloc (.cells (madeCells #[.slice none 0 0] n) 26)) := by
  obtain ⟨i, hi, hz⟩ := Option.map_eq_some_iff.1 info26
  simp only [Prod.mk.injEq] at hz
  have := run_make (P := Try.prog) w 24 26 i (.slice none 0 0) Try.underlying24 hi hz.1 .i64 .i64 (n : Int) (n : Int) (by omega) (by omega) (by rw [hz.2.2]; omega) (by omega)
  rw [hz.2.1, Nat.mul_one] at this
  exact this
theorem after_bad (A B : Option Addr) (c d : Nat) (l : List S59) (G : List (List Int)) (w : World) (hr : Kd.C k59 w A l.length l) (hc : l.length ≤ c) (hv : validL l = false) :
    Calls Try.prog 36 #[.slice A l.length c, .slice B G.length d] w (AfPost w none) := by
  have HR := Aside0.mk hr
  have HV := Aside0.mk hv
  clear hr hv
  go_enter Try.func36, Try.ntmps36
  go_wp2_with (fail)
  have HB1 : Aside0 (Below w.heap.size w (w.alloc (.cells #[.slice A l.length c] 30 (0, 0)))) := ⟨(Below.refl _ _).alloc (Nat.le_refl _) _⟩
  have hcon := valid11 A c l _ (Kd.C_below HR.out HB1.out) hc
  rw [HV.out] at hcon
  refine hcon.mono ?_
  rintro e w1 ⟨rfl, hb⟩
  have HB2 := Aside0.mk (below_step HB1.out hb)
  clear hb hcon
  go_wp2
  go_ret2
  exact ⟨_, rfl, Kd.R_nil _ _ _ _ _, HB2.out⟩
theorem own_start (w W : World) (A : Option Addr) (c : Nat) (l : List S59) (hX : W.heap[w.heap.size]? = some (.cells #[.slice A l.length c] 30 (0, 0))) (hB : Below w.heap.size w W) :
    OwI w A c l W.heap.size (List.replicate l.length []) (W.alloc (.cells (madeCells #[.slice none 0 0] l.length) 26)) := by
  refine ⟨hq_lt hX, by simp, ⟨_, heap_alloc_new _ _, by simp [size_madeCells], fun i x hx => ?_⟩, ?_, hB.alloc hB.size _, fun i x hx => by
    rw [List.getElem?_replicate] at hx
    split at hx
    · cases hx; exact .inl rfl
    · cases hx⟩
  · rw [List.getElem?_replicate] at hx
    split at hx
    · rename_i hi
      cases hx
      refine ⟨none, 0, ?_, rfl, by simp, Kd.C_nil _ _⟩
      have := toList_madeCells_one (.slice none 0 0) l.length
      have h2 := congrArg (fun l => l[i]?) this
      simpa [hi] using h2
    · cases hx
  · rw [heap_alloc_old W _ (hq_lt hX)]
    exact hX
theorem OwI.grown {w : World} {A : Option Addr} {c : Nat} {l : List S59} {o : Nat} {ow : List (List Int)} {W W' : World} (h : OwI w A c l o ow W) {row : Option Nat} (hg : W.grownBy W' row) (h1 : some o ≠ row) (h2 : some w.heap.size ≠ row) (hb : Below w.heap.size w W') : OwI w A c l o ow W' := by
  obtain ⟨cur, e1, e2, e3⟩ := h.blk
  exact ⟨h.lo, h.len, ⟨cur, (hg.block _ (hq_lt e1) h1).trans e1, e2, e3⟩, (hg.block _ (hq_lt h.box) h2).trans h.box, hb, h.val⟩
theorem OwI.blk_o {w : World} {A : Option Addr} {c : Nat} {l : List S59} {o : Nat} {ow : List (List Int)} {W : World} (h : OwI w A c l o ow W) : ∃ cur : Array Value, W.heap[o]? = some (.cells cur 26 (0, 0)) := by
  obtain ⟨cur, e1, _⟩ := h.blk
  exact ⟨cur, e1⟩
theorem OwI.app {w : World} {A : Option Addr} {c : Nat} {l : List S59} {o : Nat} {ow : List (List Int)} {W W' : World} (h : OwI w A c l o ow W) {base : Nat} {ok : Nat → Prop} {v : Value} {out : List S59} (hv : Kd.R k59 59 W base ok v out) (hg : W.grownBy W' v.ownBlock) (hb : Below w.heap.size w W') : OwI w A c l o ow W' := by
  obtain ⟨cur, e1⟩ := h.blk_o
  exact h.grown hg (Kd.R_ne hv e1 (by decide)) (Kd.R_ne hv h.box (by decide)) hb
def InEq (n : Nat) (R : Option (List (List Int))) (G : List (List Int)) (k : Nat) (g is : List Int) (ow : List (List Int)) : Prop := R = (claim1 g is ow).bind fun ow' => owners n (G.drop (k + 1)) ow'
theorem InEq.start {n : Nat} {R : Option (List (List Int))} {G : List (List Int)} {k : Nat} {g : List Int} {ow : List (List Int)} (h : R = owners n (G.drop k) ow) (hg : G[k]? = some g) (hok : okG n g = true) : InEq n R G k g (g.drop 0) ow := by
  rw [drop_get hg] at h
  unfold InEq
  rw [h]
  show (if okG n g = true then (match claim1 g g ow with
    | none => none
    | some ow' => owners n (G.drop (k + 1)) ow') else none) = (claim1 g g ow).bind fun ow' => owners n (G.drop (k + 1)) ow'
  rw [if_pos hok]
  cases claim1 g g ow <;> rfl
theorem InEq.hit {n : Nat} {R : Option (List (List Int))} {G : List (List Int)} {k : Nat} {g : List Int} {ow : List (List Int)} {m : Nat} {i : Int} (h : InEq n R G k g (g.drop m) ow) (hi : g[m]? = some i) (ho : (ow.getD i.toNat []).isEmpty = false) : R = none := by
  unfold InEq at h
  rw [h, drop_get hi]
  simp only [claim1, ho, Bool.false_eq_true, if_false, Option.bind_none]
theorem InEq.step {n : Nat} {R : Option (List (List Int))} {G : List (List Int)} {k : Nat} {g : List Int} {ow : List (List Int)} {m : Nat} {i : Int} (h : InEq n R G k g (g.drop m) ow) (hi : g[m]? = some i) (ho : (ow.getD i.toNat []).isEmpty = true) : InEq n R G k g (g.drop (m + 1)) (ow.set i.toNat g) := by
  unfold InEq at *
  rw [h, drop_get hi]
  simp only [claim1, ho, if_true]
theorem InEq.done {n : Nat} {R : Option (List (List Int))} {G : List (List Int)} {k : Nat} {g : List Int} {ow : List (List Int)} (h : InEq n R G k g (g.drop g.length) ow) : R = owners n (G.drop (k + 1)) ow := by
  unfold InEq at h
  rw [h, List.drop_length]
  rfl
set_option maxRecDepth 100000 in
set_option maxHeartbeats 4000000 in
theorem after_good (A B : Option Addr) (c d : Nat) (l : List S59) (G : List (List Int)) (w : World) (hr : Kd.C k59 w A l.length l) (hc : l.length ≤ c) (hG : Kd.C (Kd.slice 3 (Kd.int .i64)) w B G.length G) (hd : G.length ≤ d) (hv : validL l = true) :
    Calls Try.prog 36 #[.slice A l.length c, .slice B G.length d] w (AfPost w (afterL l G)) := by
  obtain ⟨hl5, hm⟩ := valid_mem hv
  have hGl : G.length ≤ 9223372036854775807 := hG.2.1
  have HM := Aside0.mk hm
  have HR := Aside0.mk hr
  have HG := Aside0.mk hG
  have HV := Aside0.mk hv
  clear hm hr hG hv
  go_enter Try.func36, Try.ntmps36
  go_wp2_with (fail)
  have HB1 : Aside0 (Below w.heap.size w (w.alloc (.cells #[.slice A l.length c] 30 (0, 0)))) := ⟨(Below.refl _ _).alloc (Nat.le_refl _) _⟩
  have HX : Aside0 ((w.alloc (.cells #[.slice A l.length c] 30 (0, 0))).heap[w.heap.size]? = some (.cells #[.slice A l.length c] 30 (0, 0))) := ⟨heap_alloc_new _ _⟩
  have hcon := valid11 A c l _ (Kd.C_below HR.out HB1.out) hc
  rw [HV.out] at hcon
  refine hcon.mono ?_
  rintro e w1 ⟨rfl, hb⟩
  have HB2 := Aside0.mk (below_step HB1.out hb)
  have HX1 := Aside0.mk ((hb.block _ (hq_lt HX.out)).trans HX.out)
  have hcell := hq_cell HX1.out 0 _ rfl
  simp only [List.getElem_toArray, List.getElem_cons_zero] at hcell
  have hmk := make26 l.length hl5 w1
  have HO := Aside0.mk (own_start w w1 A c l HX1.out HB2.out)
  obtain ⟨o, ho⟩ : ∃ o, o = w1.heap.size := ⟨_, rfl⟩
  obtain ⟨w2, hw2⟩ : ∃ w2, w2 = w1.alloc (.cells (madeCells #[.slice none 0 0] l.length) 26) := ⟨_, rfl⟩
  rw [← ho, ← hw2] at HO hmk
  clear hb hcon HX HB1 ho hw2
  go_wp2
  have HN : Aside0 (afterL l G = (owners l.length G (List.replicate l.length [])).map fun ow => aftK l ow l.length) := ⟨rfl⟩
  clear hcell hmk HX1
  go_loopw [23] (fun v23 w' => ∃ (k : Nat) (ow : List (List Int)), k ≤ G.length ∧ v23 = .int .i64 k ∧ Aside0 (owners l.length G (List.replicate l.length []) = owners l.length (G.drop k) ow) ∧ Aside0 (OwI w A c l o ow w')) (fun v23 _ => G.length - (intOf v23).toNat)
  case atStart => exact ⟨0, _, by omega, rfl, ⟨rfl⟩, HO⟩
  case round =>
    clear HO
    obtain ⟨k, ow, hk, rfl, HE, HO⟩ := hrel
    by_cases hlt : k < G.length
    · obtain ⟨g, hg⟩ : ∃ g, G[k]? = some g := ⟨_, List.getElem?_eq_getElem hlt⟩
      obtain ⟨ad, A0, c0, rfl, h0, hgc, hgC⟩ := rr_read (Kd.C_below HG.out HO.out.below) k hlt hg
      obtain ⟨_, _, _, e0, h0w, _, hgw⟩ := rr_read HG.out k hlt hg
      cases e0
      have e1 := (HO.out.below.cell (World.block_lt_of_cell? w _ h0w)).trans h0w
      rw [h0] at e1
      cases e1
      have HGW := Aside0.mk hgw
      have HDR := Aside0.mk (drop_get hg)
      have hcell := hq_cell HO.out.box 0 _ rfl
      simp only [List.getElem_toArray, List.getElem_cons_zero] at hcell
      have hcon := group51 A A0 c c0 l g _ (by omega) hc hgC hgc
      have HGG := Aside0.mk hg
      clear hg hgC hgw h0w
      cases hok : okG l.length g with
      | false =>
        rw [hok] at hcon
        have HOK := Aside0.mk hok
        clear hok
        go_wp2_with (fail)
        refine hcon.mono ?_
        rintro e w3 ⟨rfl, hb⟩
        have HB3 := Aside0.mk (HO.out.below.trans (hb.mono HO.out.below.size))
        have hres : afterL l G = none := by
          rw [HN.out, HE.out, HDR.out]
          simp [owners, HOK.out]
        have HRES := Aside0.mk hres
        clear hres
        clear hb hcon hcell h0
        go_wp2
        go_ret2
        exact AfPost.cast HRES.out ⟨_, rfl, Kd.R_nil _ _ _ _ _, HB3.out⟩
      | true =>
        rw [hok] at hcon
        have HOK := Aside0.mk hok
        obtain ⟨hg0, hgl⟩ := okG_len hok
        clear hok
        go_wp2_with (fail)
        refine hcon.mono ?_
        rintro e w3 ⟨rfl, hb⟩
        have HO3 := Aside0.mk (HO.out.step hb)
        clear hb hcon hcell h0 HO
        go_wp2
        have HE3 := Aside0.mk (InEq.start HE.out HGG.out HOK.out)
        clear HE HDR
        have hbd := okG_bd HOK.out
        have HBD := Aside0.mk hbd
        clear hbd
        go_loopw [33] (fun v33 w' => ∃ (m : Nat) (ow : List (List Int)), m ≤ g.length ∧ v33 = .int .i64 m ∧ Aside0 (InEq l.length (owners l.length G (List.replicate l.length [])) G k g (g.drop m) ow) ∧ Aside0 (OwI w A c l o ow w')) (fun v33 _ => g.length - (intOf v33).toNat)
        case atStart => exact ⟨0, _, by omega, rfl, HE3, HO3⟩
        case round =>
          clear HE3 HO3
          obtain ⟨m, ow, hm, rfl, HE, HO⟩ := hrel
          by_cases hlt2 : m < g.length
          · obtain ⟨ad2, rfl, h0⟩ := Kd.at_int HGW.out (m : Int) (by omega) (by omega)
            replace h0 := (HO.out.below.cell (World.block_lt_of_cell? w _ h0)).trans h0
            simp only [Int.toNat_natCast] at h0
            have HI := Aside0.mk (at_getI hlt2)
            generalize rd g m = i at h0 HI
            obtain ⟨i0, i1⟩ := HBD.out i (List.mem_of_getElem? HI.out)
            obtain ⟨D, dd, hc1, hc2, hnil, _, _⟩ := HO.out.get (i := i.toNat) (by omega)
            have HNIL := Aside0.mk hnil
            have hU := neq26 D (ow.getD i.toNat []).length dd wr
            cases hD : D.isNone with
            | false =>
              rw [hD] at hU hnil
              have hres : afterL l G = none := by
                rw [HN.out, HE.out.hit HI.out hnil.symm]
                rfl
              have HRES := Aside0.mk hres
              clear hres
              have HB3 := Aside0.mk HO.out.below
              clear hnil hD
              generalize (ow.getD i.toNat []).length = q at *
              go_wp2
              go_ret2
              exact AfPost.cast HRES.out ⟨_, rfl, Kd.R_nil _ _ _ _ _, HB3.out⟩
            | true =>
              rw [hD] at hU hnil
              have HE2 := Aside0.mk (HE.out.step HI.out hnil.symm)
              have HO2 := Aside0.mk (HO.out.put (i := i.toNat) (by omega) (B := some ad2) (d := c0) (g := g) (by rw [List.isEmpty_eq_false_iff.2 (List.ne_nil_of_length_pos hg0)]; rfl) hgc HGW.out HOK.out)
              clear hnil hD
              generalize (ow.getD i.toNat []).length = q at *
              go_wp2
              go_roundw
              case rel => exact ⟨m + 1, _, by omega, by go_num, HE2, HO2⟩
              case measure => simp [intOf]; omega
          · obtain rfl : m = g.length := by omega
            have HE2 := Aside0.mk HE.out.done
            go_wp2
            go_roundw
            case rel => exact ⟨k + 1, ow, by omega, by go_num, HE2, HO⟩
            case measure => simp [intOf]; omega
    · obtain rfl : k = G.length := by omega
      have hR : owners l.length G (List.replicate l.length []) = some ow := by rw [HE.out, List.drop_length]; rfl
      rw [hR] at HN
      have hres : afterL l G = some (aftK l ow l.length) := HN.out
      have HRES := Aside0.mk hres
      clear hres
      have hbox := HO.out.box
      have hcell := hq_cell hbox 0 _ rfl
      simp only [List.getElem_toArray, List.getElem_cons_zero] at hcell
      clear HN HE hR hbox
      go_wp2
      go_loopw [50, 11] (fun v50 v11 w' => ∃ (k : Nat), k ≤ l.length ∧ v50 = .int .i64 k ∧ Aside0 (OwI w A c l o ow w') ∧ Aside0 (Kd.R k59 59 w' w.heap.size (fun _ => True) v11 (aftK l ow k))) (fun v50 _ _ => l.length - (intOf v50).toNat)
      case atStart => exact ⟨0, by omega, rfl, HO, ⟨Kd.R_nil _ _ _ _ _⟩⟩
      case round =>
        clear HO hcell
        obtain ⟨k, hk2, rfl, HO, HV2⟩ := hrel
        by_cases hlt2 : k < l.length
        · obtain ⟨ad, rfl, h0, h1⟩ := at_T59 HR.out (k : Int) (by omega) (by omega)
          replace h0 := (HO.out.below.cell (World.block_lt_of_cell? w _ h0)).trans h0
          replace h1 := (HO.out.below.cell (World.block_lt_of_cell? w _ h1)).trans h1
          simp only [Int.toNat_natCast] at h0 h1
          obtain ⟨D, dd, hc1, hc2, hnil, hdl, hDC⟩ := HO.out.get (i := k) hlt2
          have HNIL := Aside0.mk hnil
          have HDC := Aside0.mk hDC
          have HK := Aside0.mk (aftK_succ l ow k)
          have HKL := aftK_len l ow k
          have hbk := HO.out.below
          have hbx := HO.out.box
          obtain ⟨cur, hbo⟩ := HO.out.blk_o
          have HBK := Aside0.mk hbk
          have HBX := Aside0.mk hbx
          have HBO := Aside0.mk hbo
          have hoo := HO.out.lo
          clear hDC hbk hbx hbo
          obtain ⟨x, hx⟩ : ∃ x, x = ow.getD k [] := ⟨_, rfl⟩
          rw [← hx] at hc1 hdl HDC HNIL hnil
          obtain ⟨out, hout⟩ : ∃ out, out = aftK l ow k := ⟨_, rfl⟩
          rw [← hout] at HK HV2 HKL
          obtain ⟨p, hp⟩ : ∃ p, p = rd_T59 l k := ⟨_, rfl⟩
          rw [← hp] at h0 h1
          have HP := Aside0.mk hp
          have HXE := Aside0.mk hx
          clear hp hout hx
          have hal := alloc_size wr (.cells #[.int .i64 p.f0, .int .i64 p.f1] 59)
          have HO4 := Aside0.mk (HO.out.step (below_alloc (Below.refl wr.heap.size wr) (.cells #[.int .i64 p.f0, .int .i64 p.f1] 59)))
          have HV4 := Aside0.mk (Kd.R_alloc HV2.out (.cells #[.int .i64 p.f0, .int .i64 p.f1] 59))
          have hE := fun W => eql26 D x.length dd W
          have hc1b : (wr.alloc (.cells #[.int .i64 p.f0, .int .i64 p.f1] 59)).cell? ⟨o, k, none⟩ = some (.slice D x.length dd) := ((below_alloc (Below.refl wr.heap.size wr) _).cell (World.block_lt_of_cell? wr _ hc1)).trans hc1
          clear hc1 hc2
          cases hD : D.isNone with
          | true =>
            rw [hD] at hE hnil
            have hone : aftP l ow k = [p] := by
              unfold aftP
              rw [← HXE.out, ← hnil, HP.out]
              rfl
            rw [hone] at HK
            clear hone hnil hD
            go_wp2_with (at_builtin; refine Kd.R_append k59 (w0 := w) w.heap.size rfl (.tmp 62) (.tmp 64) 30 59 (.agg #[.int .i64 0, .int .i64 0]) 16 rfl Try.underlying30 info59 rfl (by decide) (by decide) _ out p [.int .i64 p.f0, .int .i64 p.f1] (fun _ => True) (fun _ => False) rfl (by rw [hal]; rfl) ?aP ?aK ?aF ?aO ?aB ?aS ?aL ?_; (case aP => exact k59_mkM _ _ _ p); (case aK => exact fun b hb => hb.elim); (case aF => exact fun _ _ => trivial); (case aO => exact HV4.out); (case aB => exact HO4.out.below); (case aS => rw [hal]; have := HBK.out.size; omega); (case aL => omega); intro v1 w5 ho hb hg5 hat; have HO5 := Aside0.mk ho; have HB5 := Aside0.mk hb; have HG5 := Aside0.mk hg5; clear ho hb hg5 hat)
            have hn : OwI w (some ad) c l o ow w5 := HO4.out.app HV4.out HG5.out HB5.out
            have HN2 := Aside0.mk hn
            rw [← HK.out] at HO5
            clear hn
            go_roundw
            case rel => exact ⟨k + 1, by omega, by go_num, HN2, HO5⟩
            case measure => simp [intOf]; omega
          | false =>
            rw [hD] at hE hnil
            have hxe : x ≠ [] := fun e => by rw [e] at hnil; cases hnil
            have hx0 : 0 < x.length := List.length_pos_iff.2 hxe
            obtain ⟨ad2, rfl, h2⟩ := Kd.at_int HDC.out 0 (by omega) (by omega)
            replace h2 := (HO4.out.below.cell (World.block_lt_of_cell? w _ h2)).trans h2
            rw [show ad2.add (0 : Int).toNat = ad2 from by cases ad2; rfl] at h2
            have HX0 : Aside0 (rd x 0 = x.getD 0 0) := ⟨rfl⟩
            generalize rd x 0 = y at h2 HX0
            have hnem : (ow.getD k []).isEmpty = false := by rw [← HXE.out]; exact hnil.symm
            by_cases hy : y = (k : Int)
            · have hone : aftP l ow k = [⟨sumG (fun i => (rd_T59 l i).f0) x, sumG (fun i => (rd_T59 l i).f1) x⟩] := by
                unfold aftP
                rw [hnem, ← HXE.out, ← HX0.out, if_neg (by decide), if_pos hy]
              rw [hone] at HK
              clear hone hnil hD hnem
              have hokx : okG l.length x = true := by
                rcases HO.out.val k x (by rw [HXE.out]; simp [List.getD_eq_getElem?_getD, HO.out.len, hlt2]) with e | e
                · exact absurd e hxe
                · exact e
              have HOKX := Aside0.mk hokx
              obtain ⟨_, hxl⟩ := okG_len hokx
              have HAL : Aside0 (wr.heap.size + 1 = (wr.alloc (.cells #[.int .i64 p.f0, .int .i64 p.f1] 59)).heap.size) := ⟨hal.symm⟩
              obtain ⟨W, hW⟩ : ∃ W, W = wr.alloc (.cells #[.int .i64 p.f0, .int .i64 p.f1] 59) := ⟨_, rfl⟩
              have HS1 := Aside0.mk (sum52 53 w.heap.size (fun i => (rd_T59 l i).f0) (some ad2) dd x W (Kd.C_below HDC.out (by rw [hW]; exact HO4.out.below)) hdl (by omega) fn53 (fun i hi => by
                have hii := okG_bd HOKX.out i hi
                have := HM.out _ (rd_mem hii.1 hii.2)
                exact ⟨by omega, by omega, fun W' hW' => clo53 (some ad) c l w.heap.size i W' ((hW'.block _ (by rw [hW]; exact hq_lt HO4.out.box)).trans (by rw [hW]; exact HO4.out.box)) (Kd.C_below HR.out (HO4.out.below.trans (by rw [← hW]; exact hW'.mono (by rw [hW]; exact HO4.out.below.size)))) hc hii⟩))
              rw [hW] at HS1
              clear hokx hal
              go_wp2_with (fail)
              refine HS1.out.mono ?_
              rintro e w5 ⟨rfl, hb5⟩
              have HO5 := Aside0.mk (HO4.out.step hb5)
              have HV5 := Aside0.mk (Kd.R_below HV4.out hb5)
              clear hb5 HS1 h2 hc1b
              have HS2 := Aside0.mk (sum52 54 w.heap.size (fun i => (rd_T59 l i).f1) (some ad2) dd x w5 (Kd.C_below HDC.out HO5.out.below) hdl (by omega) fn54 (fun i hi => by
                have hii := okG_bd HOKX.out i hi
                have := HM.out _ (rd_mem hii.1 hii.2)
                exact ⟨by omega, by omega, fun W' hW' => clo54 (some ad) c l w.heap.size i W' ((hW'.block _ (hq_lt HO5.out.box)).trans HO5.out.box) (Kd.C_below HR.out (HO5.out.below.trans (hW'.mono HO5.out.below.size))) hc hii⟩))
              go_wp2_with (fail)
              refine HS2.out.mono ?_
              rintro e w6 ⟨rfl, hb6⟩
              have HO6 := Aside0.mk (HO5.out.step hb6)
              have HV6 := Aside0.mk (Kd.R_below HV5.out hb6)
              clear hb6 HS2
              generalize sumG (fun i => (rd_T59 l i).f0) x = s0 at HK ⊢
              generalize sumG (fun i => (rd_T59 l i).f1) x = s1 at HK ⊢
              go_wp2_with (at_builtin; refine Kd.R_append k59 (w0 := w) w.heap.size rfl (.tmp 72) (.tmp 80) 30 59 (.agg #[.int .i64 0, .int .i64 0]) 16 rfl Try.underlying30 info59 rfl (by decide) (by decide) _ out ⟨s0, s1⟩ [.int .i64 s0, .int .i64 s1] (fun _ => True) (fun _ => False) rfl rfl ?aP ?aK ?aF ?aO ?aB ?aS ?aL ?_; (case aP => exact k59_mkM _ _ _ ⟨s0, s1⟩); (case aK => exact fun b hb => hb.elim); (case aF => exact fun _ _ => trivial); (case aO => exact HV6.out); (case aB => exact HO6.out.below); (case aS => exact HO6.out.below.size); (case aL => omega); intro v1 w7 ho hb hg5 hat; have HO7 := Aside0.mk ho; have HB5 := Aside0.mk hb; have HG5 := Aside0.mk hg5; clear ho hb hg5 hat)
              have hn : OwI w (some ad) c l o ow w7 := HO6.out.app HV6.out HG5.out HB5.out
              have HN2 := Aside0.mk hn
              rw [← HK.out] at HO7
              clear hn
              go_roundw
              case rel => exact ⟨k + 1, by omega, by go_num, HN2, HO7⟩
              case measure => simp [intOf]; omega
            · have hone : aftP l ow k = [] := by
                unfold aftP
                rw [hnem, ← HXE.out, ← HX0.out, if_neg (by decide), if_neg hy]
              rw [hone, List.append_nil] at HK
              rw [← HK.out] at HV4
              clear hone hnil hD hnem
              go_wp2
              go_roundw
              case rel => exact ⟨k + 1, by omega, by go_num, HO4, HV4⟩
              case measure => simp [intOf]; omega
        · obtain rfl : k = l.length := by omega
          have HB9 := Aside0.mk HO.out.below
          go_wp2
          go_ret2
          exact AfPost.cast HRES.out ⟨_, rfl, HV2.out, HB9.out⟩
def cost_After.f (l0 : List S59) (l1 : List (List Int)) : Option (List S59 × Int) := match (if validL l0 then afterL l0 l1 else none) with | some out => some (out, 0) | none => some ([], 1)
theorem cost_After.calls (A0 : Option Addr) (c0 : Nat) (l0 : List S59) (A1 : Option Addr) (c1 : Nat) (l1 : List (List Int)) (r1 : List S59) (r2 : Int) (w : World) (hr0 : Kd.C k59 w A0 l0.length l0) (hc0 : l0.length ≤ c0) (hr1 : Kd.C (Kd.slice 3 (Kd.int .i64)) w A1 l1.length l1) (hc1 : l1.length ≤ c1) (h : cost_After.f l0 l1 = some (r1, r2)) :
    Calls Try.prog 36 #[.slice A0 l0.length c0, .slice A1 l1.length c1] w fun e w' => ∃ v0_ : Value, e = .returned (.tuple #[v0_, .int .i64 r2]) ∧ Kd.R k59 59 w' w.heap.size (fun _ => True) v0_ r1 ∧ Below w.heap.size w w' := by
  have key : Calls Try.prog 36 #[.slice A0 l0.length c0, .slice A1 l1.length c1] w (AfPost w (if validL l0 then afterL l0 l1 else none)) := by
    cases hv : validL l0 with
    | true => exact after_good A0 A1 c0 c1 l0 l1 w hr0 hc0 hr1 hc1 hv
    | false => exact after_bad A0 A1 c0 c1 l0 l1 w hr0 hc0 hv
  unfold cost_After.f at h
  refine key.mono ?_
  rintro e w' ⟨v, he, hR, hB⟩
  cases hx : (if validL l0 then afterL l0 l1 else none) with
  | none =>
    rw [hx] at h he hR
    injection h with h
    injection h with h1 h2
    subst h1 h2
    exact ⟨v, he, hR, hB⟩
  | some out =>
    rw [hx] at h he hR
    injection h with h
    injection h with h1 h2
    subst h1 h2
    exact ⟨v, he, hR, hB⟩
end Go.Proofs.Ytckempgpaojljaa.P
end
