/- Parts of a proof, laid together: THg, TGg, TGi, TGj, TPx10, TGk, TGl, TGm, TGn, TGp, TGq, TPx6. -/
import Derived.Test.YtckempgpaojljaaMm5
import Derived.Test.YtckempgpaojljaaMm1
import Derived.Test.YtckempgpaojljaaMm4
section
/- The contract of chapmanref36.clusters. -/
namespace Go.Proofs.Ytckempgpaojljaa.P
set_option linter.unusedVariables false
set_option linter.unusedSimpArgs false
open Go.RowKit Go.Proofs.YtckempgpaojljaaW.PrintWords Go.Proofs.YtckempgpaojljaaW.PrintLast Go.Proofs.YtckempgpaojljaaW.PrintMore
theorem InvC.merge {l : List S43} {cs : List (List Int × Int)} (h : InvC l cs) (i j : Nat) (hi : i < cs.length) (hj : j < cs.length) : InvC l (mergeC cs i j) := by
  have hm : ∀ c ∈ mergeC cs i j, c ∈ cs ∨ c = ((cs.getD i ([], 0)).1 ++ (cs.getD j ([], 0)).1, (cs.getD i ([], 0)).2 + (cs.getD j ([], 0)).2) := fun c hc => List.mem_or_eq_of_mem_set (List.mem_of_mem_eraseIdx hc)
  refine ⟨fun c hc => ?_, fun c hc k hk => ?_⟩
  · rcases hm c hc with e | e
    · exact h.sum c e
    · rw [e]
      show _ + _ = sumG _ (_ ++ _)
      rw [sumG_append, h.sum _ (getD_mem cs i _ hi), h.sum _ (getD_mem cs j _ hj)]
  · rcases hm c hc with e | e
    · exact h.idx c e k hk
    · rw [e] at hk
      rcases List.mem_append.1 hk with hk | hk
      · exact h.idx _ (getD_mem cs i _ hi) k hk
      · exact h.idx _ (getD_mem cs j _ hj) k hk
theorem InvC.step {l : List S43} {cs cs' : List (List Int × Int)} (h : InvC l cs) (hs : stepC cs = some cs') : InvC l cs' := by
  obtain ⟨i0, i1, i2, i3, hf, h0, h1, h2, h3, _⟩ := step_ref cs cs' hs
  unfold stepC at hs
  split at hs
  · exact absurd hs (by simp)
  · rename_i hn
    have hf2 : fourC cs = (posC cs (idx4 (cntC cs)) cs.length).take 4 := by unfold fourC; rw [if_neg hn]
    rw [← hf2, hf] at hs
    injection hs with hs
    rw [← hs]
    have l1 := mergeC_length cs i0 i1 (by omega)
    have k1 := h.merge i0 i1 (by omega) (by omega)
    have l2 := mergeC_length (mergeC cs i0 i1) i0 (i2 - 1) (by omega)
    have k2 := k1.merge i0 (i2 - 1) (by omega) (by omega)
    exact k2.merge i0 (i3 - 2) (by omega) (by omega)
theorem step_none {cs : List (List Int × Int)} (hs : stepC cs = none) : fourC cs = [] := by
  unfold stepC at hs
  unfold fourC
  split at hs
  · rename_i hn
    rw [if_pos hn]
  · rename_i hn
    exfalso
    have hcl : (cntC cs).length = 16 := by simp [cntC]
    rcases idx4_spec (cntC cs) with h | ⟨j, e, hj, h4⟩
    · rw [h] at hn
      exact hn (by decide)
    · have hc := posC_count cs j (by omega)
      rw [e] at hs
      have hl : ((posC cs (j : Int) cs.length).take 4).length = 4 := by rw [List.length_take]; omega
      generalize (posC cs (j : Int) cs.length).take 4 = P at hs hl
      match P, hl, hs with
      | [a, b, c, d], _, hs => exact absurd hs (by simp)
theorem InvC.start (l : List S43) : InvC l (startC (pcs l)) := by
  refine ⟨fun c hc => ?_, fun c hc k hk => ?_⟩
  · obtain ⟨q, hq, rfl⟩ := List.mem_map.1 hc
    obtain ⟨p, i⟩ := q
    rw [List.mem_zipIdx_iff_getElem?] at hq
    simp only [pcs, List.getElem?_map, Option.map_eq_some_iff] at hq
    obtain ⟨x, hx, e⟩ := hq
    subst e
    simp [sumG, rd_T43, List.getD_eq_getElem?_getD, hx]
  · obtain ⟨q, hq, rfl⟩ := List.mem_map.1 hc
    obtain ⟨p, i⟩ := q
    rw [List.mem_zipIdx_iff_getElem?] at hq
    simp only [pcs, List.getElem?_map, Option.map_eq_some_iff] at hq
    obtain ⟨x, hx, _⟩ := hq
    have := (List.getElem?_eq_some_iff.1 hx).1
    simp at hk
    subst hk
    simp
    omega
theorem sortI_one (x : Int) : sortI [x] = [x] := by simp [sortI]
theorem sortI_nil : sortI [] = [] := by simp [sortI]
theorem refC_start (l : List S43) : refC (startC (pcs l)) = (List.range l.length).map fun (i : Nat) => [(i : Int)] := by
  apply List.ext_getElem
  · simp [refC, startC, pcs]
  · intro i h1 h2
    simp [refC, startC, sortI_one]
theorem allC_append (cs : List (List Int × Int)) (a b : List Nat) : allC cs (a ++ b) = allC cs a ++ allC cs b := by
  induction a with
  | nil => rfl
  | cons x a ih => simp [allC, ih]
theorem allC_succ (cs : List (List Int × Int)) (f : List Nat) (k i : Nat) (h : f[k]? = some i) : allC cs (f.take (k + 1)) = allC cs (f.take k) ++ (cs.getD i ([], 0)).1 := by
  rw [List.take_add_one, h, allC_append]
  simp [allC]
structure NI (w : World) (f : List Nat) (x : List Int) (G : List (List Int)) (vo vf va vn : Value) (i : Nat) (W : World) : Prop where
  rO : RR W w.heap.size (fun k => True ∧ some k ≠ vn.ownBlock) vo G
  rF : Kd.R (Kd.int .i64) 3 W w.heap.size (fun _ => True) vf (natI f)
  rA : Kd.R (Kd.int .i64) 3 W w.heap.size (fun _ => True) va x
  rN : RR W w.heap.size (fun _ => True) vn (nextP f x G i)
  below : Below w.heap.size w W
theorem NI.app {w : World} {f : List Nat} {x : List Int} {G : List (List Int)} {vo vf va vn : Value} {i j : Nat} {W W' : World} {v1 : Value} (h : NI w f x G vo vf va vn i W) (hr : RR W' w.heap.size (fun _ => True) v1 (nextP f x G j)) (hb : Below w.heap.size w W') (hg : W.grownBy W' vn.ownBlock) (hat : v1.ownBlock = vn.ownBlock ∨ ∃ b, v1.ownBlock = some b ∧ W.heap.size ≤ b) : NI w f x G vo vf va v1 j W' := by
  have h26 : ∀ q, q ∈ 3 :: (Kd.int .i64).E → q ≠ 26 := by
    intro q hq
    have : q = 3 := by simpa [Kd.int, Kd.scalar] using hq
    omega
  exact ⟨Kd.R_after h.rO hg hat, Kd.R_over' h.rF (Kd.R_typed h.rN) h26 hg, Kd.R_over' h.rA (Kd.R_typed h.rN) h26 hg, hr, hb⟩
theorem NI.moves {w : World} {f : List Nat} {x : List Int} {G : List (List Int)} {vo vf va vn : Value} {i : Nat} {W W' : World} (h : NI w f x G vo vf va vn i W) (hb : Below W.heap.size W W') : NI w f x G vo vf va vn i W' :=
  ⟨Kd.R_below h.rO hb, Kd.R_below h.rF hb, Kd.R_below h.rA hb, Kd.R_below h.rN hb, h.below.trans (hb.mono h.below.size)⟩
theorem typed3 {W : World} {base : Nat} {ok : Nat → Prop} {v : Value} {xs : List Int} (h : Kd.R (Kd.int .i64) 3 W base ok v xs) : Kd.R (Kd.int .i64) 3 W base (fun k => ∃ cells, W.heap[k]? = some (.cells cells 3 (0, 0))) v xs :=
  Kd.R_mono (Kd.R_bound h) (fun k hk => by
    obtain ⟨_, _, _, q, hq, hc⟩ := hk
    have : q = 3 := by simpa [Kd.int, Kd.scalar] using hq
    rw [this] at hc
    exact hc)
theorem apart26 {W : World} {base : Nat} {ok : Nat → Prop} {v : Value} {xs : List (List Int)} (h : RR W base ok v xs) (k : Nat) (hk : ∃ cells, W.heap[k]? = some (.cells cells 3 (0, 0))) : True ∧ some k ≠ v.ownBlock :=
  ⟨trivial, fun e => by
    obtain ⟨c1, h1⟩ := hk
    obtain ⟨c2, h2⟩ := Kd.R_typed h k e.symm
    rw [h1] at h2
    injection h2 with h2
    injection h2 with _ h3
    exact absurd h3 (by decide)⟩
theorem nextP_len {α : Type} (f : List Nat) (x : α) (G : List α) (k : Nat) : (nextP f x G k).length ≤ 2 * k := by
  induction k with
  | zero => simp [nextP]
  | succ k ih =>
    show ((_ ++ (if _ then _ else _) ++ (if _ then _ else _)) : List α).length ≤ _
    rw [List.length_append, List.length_append]
    have h1 : (if some k = f.head? then [x] else []).length ≤ 1 := by split <;> simp
    have h2 : (if k ∈ f then [] else (G[k]?).toList).length ≤ 1 := by
      split
      · simp
      · cases G[k]? <;> simp
    omega
theorem natI_length (f : List Nat) : (natI f).length = f.length := by simp [natI]
theorem natI_get {f : List Nat} {k i : Nat} (h : f[k]? = some i) : rd (natI f) (k : Int) = (i : Int) := by simp [rd, natI, List.getD_eq_getElem?_getD, h]
theorem NI.start {w : World} {f : List Nat} {G : List (List Int)} {vo vf : Value} {W : World} (hb : Below w.heap.size w W) (hO : RR W w.heap.size (fun _ => True) vo G) (hF : Kd.R (Kd.int .i64) 3 W w.heap.size (fun _ => True) vf (natI f)) :
    NI w f [] G vo vf (.slice (some ⟨W.heap.size + 1, 0, none⟩) 0 0) (.slice (some ⟨W.heap.size, 0, none⟩) 0 0) 0 ((W.alloc (.cells #[] 26)).alloc (.cells #[] 3)) := by
  have hs := alloc_size W (.cells #[] 26)
  refine ⟨Kd.R_alloc (Kd.R_alloc (Kd.R_mono (Kd.R_bound hO) (fun k hk => ⟨trivial, fun e => ?_⟩)) _) _, Kd.R_alloc (Kd.R_alloc hF _) _, ?_, Kd.R_alloc (R_zero _ _ _ _ _ hb.size trivial) _, below_alloc (below_alloc hb _) _⟩
  · have := R_zero (Kd.int .i64) 3 (W.alloc (.cells #[] 26)) w.heap.size (fun _ => True) (by rw [hs]; have := hb.size; omega) trivial
    rw [hs] at this
    exact this
  · have h2 : k = W.heap.size := by simpa [Value.ownBlock] using e
    have := hk.2.2.1
    omega
theorem drawn_below {W W' : World} (h : Drawn0 W W') : Below W.heap.size W W' := by
  obtain ⟨m, rfl⟩ := h
  exact pw_below_drewN (Below.refl _ _) m
theorem addr_zero (ad : Addr) : ad.add 0 = ad := by cases ad; rfl
theorem nextP_hit {α : Type} {f : List Nat} {x : α} {G : List α} {i : Nat} (h : f.head? = some i) : nextP f x G (i + 1) = nextP f x G i ++ [x] := by
  show _ ++ (if _ then _ else _) ++ (if _ then _ else _) = _
  rw [h, if_pos rfl, if_pos (List.mem_of_mem_head? h), List.append_nil]
theorem nextP_skip {α : Type} {f : List Nat} {x : α} {G : List α} {i i0 : Nat} (h : f.head? = some i0) (hi : ¬ i = i0) (hm : i ∈ f) : nextP f x G (i + 1) = nextP f x G i := by
  show _ ++ (if _ then _ else _) ++ (if _ then _ else _) = _
  rw [h, if_neg (by simpa using hi), if_pos hm, List.append_nil, List.append_nil]
theorem nextP_keep {α : Type} {f : List Nat} {x : α} {G : List α} {i i0 : Nat} {y : α} (h : f.head? = some i0) (hm : ¬ i ∈ f) (hy : G[i]? = some y) : nextP f x G (i + 1) = nextP f x G i ++ [y] := by
  show _ ++ (if _ then _ else _) ++ (if _ then _ else _) = _
  rw [h, if_neg (fun e => hm (List.mem_of_mem_head? (by rw [h]; exact e.symm))), if_neg hm, List.append_nil, hy]
  rfl
theorem mem_natI {f : List Nat} {i : Nat} : ((i : Int) ∈ natI f) = (i ∈ f) := propext ⟨fun h => by
  obtain ⟨a, ha, e⟩ := List.mem_map.1 h
  have : a = i := by omega
  exact this ▸ ha, fun h => List.mem_map.2 ⟨i, h, rfl⟩⟩
theorem OkC.len1 {cs : List (List Int × Int)} (h : OkC cs) (i : Nat) (hi : i < cs.length) : (cs.getD i ([], 0)).1.length ≤ 1000 := by
  have h2 := sum_ge (cs.map fun c => (c.1.length : Int)) (by
    intro z hz
    obtain ⟨c, hc, rfl⟩ := List.mem_map.1 hz
    omega) i (by simpa using hi)
  have e : (cs.map fun c => (c.1.length : Int)).getD i 0 = ((cs.getD i ([], 0)).1.length : Int) := by simp [List.getD_eq_getElem?_getD, hi]
  have := h.sumL
  omega
theorem allC_len {cs : List (List Int × Int)} (h : OkC cs) (f : List Nat) (hf : ∀ i ∈ f, i < cs.length) : (allC cs f).length ≤ 1000 * f.length := by
  induction f with
  | nil => simp [allC]
  | cons x f ih =>
    have h1 := h.len1 x (hf x (by simp))
    have h2 := ih (fun i hi => hf i (by simp [hi]))
    simp only [allC, List.length_append, List.length_cons]
    omega
theorem fresh_not {v : Value} {n : Nat} (hl : ∀ k, v.ownBlock = some k → k < n) (b : Nat) (hb : (Value.slice (some ⟨n, 0, none⟩) 1 1).ownBlock = some b) : True ∧ some b ≠ v.ownBlock :=
  ⟨trivial, fun e => by
    have h1 := hl b e.symm
    have h2 : n = b := by simpa [Value.ownBlock] using hb
    omega⟩
structure CI (w : World) (l : List S43) (fin : List (List Int × Int)) (n : Nat) (v : Value) (W : World) : Prop where
  ex : ∃ cs, RR W w.heap.size (fun _ => True) v (refC cs) ∧ InvC l cs ∧ OkC cs ∧ iterC n cs = fin ∧ cs.length ≤ n
  below : Below w.heap.size w W
def ClPost (w : World) (r : List (List Int)) (e : Ending) (w' : World) : Prop := ∃ v, e = .returned v ∧ RR w' w.heap.size (fun _ => True) v r ∧ Below w.heap.size w w'
set_option maxRecDepth 100000 in
set_option maxHeartbeats 4000000 in
theorem clus34 (A : Option Addr) (c : Nat) (l : List S43) (w : World) (hr : Kd.C k43 w A l.length l) (hc : l.length ≤ c) (hv : validL (pcs l) = true) :
    Calls Try.prog 34 #[.slice A l.length c] w (ClPost w (refC (iterC l.length (startC (pcs l))))) := by
  obtain ⟨hl5, hm⟩ := valid_mem hv
  rw [pcs_length] at hl5
  have hb : ∀ p ∈ l, 0 ≤ p.f0 ∧ p.f0 ≤ 1000000000000 ∧ 0 ≤ p.f1 ∧ p.f1 ≤ 1000000000000 := fun p hp => by
    have := hm ⟨p.f0, p.f1⟩ (List.mem_map.2 ⟨p, hp, rfl⟩)
    simp only at this
    omega
  have HBD := Aside0.mk hb
  have HR := Aside0.mk hr
  have HV := Aside0.mk hv
  clear hr hv hm hb
  go_enter Try.func34, Try.ntmps34
  go_wp2
  go_loopw [4, 3] (fun v4 v3 w' => ∃ k : Nat, k ≤ l.length ∧ v4 = .int .i64 k ∧ Aside0 (Below w.heap.size w w') ∧ Aside0 (RR w' w.heap.size (fun _ => True) v3 ((List.range k).map fun (i : Nat) => [(i : Int)]))) (fun v4 _ _ => l.length - (intOf v4).toNat)
  case atStart => exact ⟨0, by omega, rfl, ⟨below_alloc (Below.refl _ _) _⟩, ⟨R_zero _ _ _ _ _ (Nat.le_refl _) trivial⟩⟩
  case round =>
    obtain ⟨k, hk, rfl, HB, HV3⟩ := hrel
    by_cases hlt : k < l.length
    · have hal := alloc_size wr (.cells #[.int .i64 (k : Int)] 3)
      have HV4 := Aside0.mk (Kd.R_alloc HV3.out (.cells #[.int .i64 (k : Int)] 3))
      have HB4 := Aside0.mk (below_alloc HB.out (.cells #[.int .i64 (k : Int)] 3))
      have HONE := Aside0.mk (R_one wr w.heap.size (k : Int) HB.out.size)
      have HLT := Aside0.mk (Kd.R_lt HV3.out)
      go_wp2_with (at_builtin; refine Kd.R_append (Kd.slice 3 (Kd.int .i64)) (w0 := w) w.heap.size rfl (.tmp 17) (.tmp 20) 24 26 (.slice none 0 0) 24 rfl Try.underlying24 info26 rfl (by decide) (by decide) _ ((List.range k).map fun (i : Nat) => [(i : Int)]) [(k : Int)] [.slice (some ⟨wr.heap.size, 0, none⟩) 1 1] (fun _ => True) (fun b => (Value.slice (some ⟨wr.heap.size, 0, none⟩) 1 1).ownBlock = some b) rfl (by rw [hal]; rfl) ?aP ?aK ?aF ?aO ?aB ?aS ?aL ?_; (case aP => exact ⟨_, rfl, HONE.out⟩); (case aK => exact fun b hb => fresh_not HLT.out b hb); (case aF => exact fun _ _ => trivial); (case aO => exact HV4.out); (case aB => exact HB4.out); (case aS => rw [hal]; have := HB.out.size; omega); (case aL => rw [List.length_map, List.length_range]; omega); intro v1 w5 ho hb hg5 hat; have HO5 := Aside0.mk ho; have HB5 := Aside0.mk hb; clear ho hb hg5 hat)
      have HN : Aside0 (RR w5 w.heap.size (fun _ => True) v1 ((List.range (k + 1)).map fun (i : Nat) => [(i : Int)])) := ⟨by rw [List.range_succ, List.map_append]; exact HO5.out⟩
      go_roundw
      case rel => exact ⟨k + 1, by omega, by go_num, HB5, HN⟩
      case measure => simp [intOf]; omega
    · obtain rfl : k = l.length := by omega
      have h0 : CI w l (iterC l.length (startC (pcs l))) l.length u3 wr := by
        refine ⟨⟨startC (pcs l), ?_, InvC.start l, startC_ok HV.out, rfl, by simp [startC, pcs]⟩, HB.out⟩
        rw [refC_start]
        exact HV3.out
      have H0 := Aside0.mk h0
      clear h0
      go_wp2
      go_loopg [3] l.length (fun gk v3 w' => Aside0 (CI w l (iterC l.length (startC (pcs l))) gk v3 w'))
      case atStart => exact H0
      case round =>
        clear H0 HB HV3
        have H := hrel
        clear hrel
        obtain ⟨cs, hRR, hinv, hokc, hit, hle⟩ := H.out.ex
        have HRR := Aside0.mk hRR
        have HINV := Aside0.mk hinv
        have HOKC := Aside0.mk hokc
        have HIT := Aside0.mk hit
        have HLE := Aside0.mk hle
        have hcn := hokc.num
        obtain ⟨AO, cO, eO, hcO, hCO⟩ := Kd.R_reads hRR
        obtain ⟨kf, hkf⟩ : ∃ k, chapmanref36_four.f k l (refC cs) = some (natI (fourC cs)) := by
          obtain ⟨K, hK⟩ := four_ev l cs hinv hokc HBD.out
          exact ⟨K, hK K (Nat.le_refl _)⟩
        have hcon := chapmanref36_four.calls kf A c l AO cO (refC cs) (natI (fourC cs)) wr (Kd.C_below HR.out H.out.below) hc hCO hcO hkf
        have HEO := Aside0.mk eO
        rw [← eO] at hcon
        have HCON := Aside0.mk hcon
        clear hRR hinv hokc hit hle eO hCO hkf hcon hcO
        go_wp2_with (fail)
        refine HCON.out.mono ?_
        rintro e w2 ⟨vf, rfl, hF, hb⟩
        have HB2 := Aside0.mk (H.out.below.trans (hb.mono H.out.below.size))
        have HF2 := Aside0.mk (Kd.R_lower hF H.out.below.size)
        have HRR2 := Aside0.mk (Kd.R_below HRR.out hb)
        clear hF hb
        cases hs : stepC cs with
        | none =>
          have HS := Aside0.mk hs
          have hf0 := step_none hs
          rw [hf0] at HF2
          obtain ⟨AF, cF, rfl, _⟩ := Kd.R_reads HF2.out
          have hfin : cs = iterC l.length (startC (pcs l)) := by
            rw [← HIT.out]
            cases gk with
            | zero => rfl
            | succ k => simp [iterC, hs]
          have HFIN := Aside0.mk hfin
          clear hs hf0 hfin
          go_wp2
          go_ret
          exact ⟨_, rfl, by rw [← HFIN.out]; exact HRR2.out, HB2.out⟩
        | some cs' =>
          obtain ⟨i0, i1, i2, i3, hf4, q0, q1, q2, q3, hnext⟩ := step_ref cs cs' hs
          obtain ⟨hok', hlen'⟩ := stepC_ok HOKC.out hs
          obtain ⟨gk, rfl⟩ : ∃ m, gk = m + 1 := ⟨gk - 1, by have := HLE.out; omega⟩
          have hit' : iterC gk cs' = iterC l.length (startC (pcs l)) := by
            rw [← HIT.out]
            simp [iterC, hs]
          have HIT' := Aside0.mk hit'
          have HOK' := Aside0.mk hok'
          have HINV' := Aside0.mk (HINV.out.step hs)
          have HLE' : Aside0 (cs'.length ≤ gk) := ⟨by have := HLE.out; omega⟩
          have hfl : (fourC cs).length = 4 := by rw [hf4]; rfl
          have hf0 : (fourC cs)[0]? = some i0 := by rw [hf4]; rfl
          have hfh : (fourC cs).head? = some i0 := by rw [hf4]; rfl
          have hfm : ∀ i ∈ fourC cs, i < cs.length := by
            rw [hf4]
            intro i hi
            simp only [List.mem_cons, List.not_mem_nil, or_false] at hi
            omega
          have HF0 := Aside0.mk hf0
          have HFH := Aside0.mk hfh
          have HFM := Aside0.mk hfm
          have HNX := Aside0.mk hnext
          clear hit' hok' hs hf4 hnext hf0 hfh hfm hlen'
          generalize fourC cs = f at *
          have eO := HEO.out
          subst eO
          obtain ⟨AF, cF, eF, hcF, hcF2⟩ := Kd.R_reads HF2.out
          clear hcF2
          rw [natI_length, hfl] at eF
          subst eF
          have hrl := refC_length cs
          have HNI := Aside0.mk (NI.start HB2.out HRR2.out HF2.out)
          have hal := alloc_size w2 (.cells #[] 26)
          rw [hrl] at HNI
          have hxs : sortI (allC cs (f.take 0)) = [] := by rw [List.take_zero]; exact sortI_nil
          rw [← hxs] at HNI
          clear HCON HRR HRR2 HF2 H hcF hxs
          go_wp2
          go_loopw [8, 7] (fun v8 v7 w' => ∃ k : Nat, k ≤ 4 ∧ v8 = .int .i64 k ∧ Aside0 (NI w f (sortI (allC cs (f.take k))) (refC cs) (.slice AO cs.length cO) (.slice AF 4 cF) v7 (.slice (some ⟨w2.heap.size, 0, none⟩) 0 0) 0 w')) (fun v8 _ _ => 4 - (intOf v8).toNat)
          case atStart => exact ⟨0, by omega, rfl, HNI⟩
          case round =>
            clear HNI hal
            obtain ⟨k, hk4, rfl, HN⟩ := hrel
            by_cases hlt2 : k < 4
            · obtain ⟨ik, hik⟩ : ∃ i, f[k]? = some i := ⟨_, List.getElem?_eq_getElem (by omega)⟩
              have hikn := HFM.out ik (List.mem_of_getElem? hik)
              obtain ⟨nF, _, hCF⟩ := Kd.R_reads' HN.out.rF
              obtain ⟨ad, rfl, hx0⟩ := Kd.at_int hCF (k : Int) (by omega) (by rw [← nF]; omega)
              rw [natI_get hik, Int.toNat_natCast] at hx0
              obtain ⟨nO, _, hCO⟩ := Kd.R_reads' HN.out.rO
              obtain ⟨ad2, A0, c0, rfl, hx1, hgc, hgC⟩ := rr_read hCO ik (by rw [hrl]; exact hikn) (x := sortI (cs.getD ik ([], 0)).1) (by rw [← refC_get hikn]; exact List.getElem?_eq_getElem _)
              obtain ⟨Aa, ca, ea, hac, haC⟩ := Kd.R_reads HN.out.rA
              subst ea
              have hall := allC_succ cs f k ik hik
              have HALL := Aside0.mk hall
              have hlen1 : (sortI (allC cs (f.take k))).length ≤ 1000000 := by
                rw [sortI_length]
                have h1 := allC_len HOKC.out (f.take k) (fun j hj => HFM.out j (List.mem_of_mem_take hj))
                have h2 : (f.take k).length ≤ 4 := by rw [List.length_take]; omega
                omega
              have hlen2 : (sortI (cs.getD ik ([], 0)).1).length ≤ 1000000 := by
                rw [sortI_length]
                have := HOKC.out.len1 ik hikn
                omega
              obtain ⟨km, hkm⟩ : ∃ q, chapmanref36_merged.f q (sortI (allC cs (f.take k))) (sortI (cs.getD ik ([], 0)).1) = some (sortI (allC cs (f.take (k + 1)))) := by
                obtain ⟨K, hK⟩ := merged_ev _ _ hlen1 hlen2
                rw [hall, ← mrgI_sort]
                exact ⟨K, hK K (Nat.le_refl _)⟩
              have HM := Aside0.mk (chapmanref36_merged.calls km Aa ca _ A0 c0 _ _ wr haC hac hgC hgc hkm)
              generalize (sortI (cs.getD ik ([], 0)).1).length = n2 at *
              generalize (sortI (allC cs (f.take k))).length = n1 at *
              clear hall hik hCF hCO hgC haC hkm hlen1 hlen2 nF nO
              go_wp2_with (fail)
              refine HM.out.mono ?_
              rintro e w3 ⟨v7, rfl, hV, hb⟩
              have HN2 := Aside0.mk (HN.out.moves hb)
              have hN3 : NI w f (sortI (allC cs (f.take (k + 1)))) (refC cs) (.slice (some ad2) cs.length cO) (.slice (some ad) 4 cF) v7 (.slice (some ⟨w2.heap.size, 0, none⟩) 0 0) 0 w3 := ⟨HN2.out.rO, HN2.out.rF, Kd.R_lower hV HN.out.below.size, HN2.out.rN, HN2.out.below⟩
              have HN3 := Aside0.mk hN3
              clear hV hb hN3 HN2 HM
              go_wp2
              go_roundw
              case rel => exact ⟨k + 1, by omega, by go_num, HN3⟩
              case measure => simp [intOf]; omega
            · rw [List.take_of_length_le (by omega)] at HN
              obtain ⟨Aa, ca, ea, hac, haC⟩ := Kd.R_reads HN.out.rA
              subst ea
              clear haC
              generalize hnX : (sortI (allC cs f)).length = nX at *
              clear hnX
              go_wp2
              obtain ⟨X, hX⟩ : ∃ X, X = sortI (allC cs f) := ⟨_, rfl⟩
              rw [← hX] at HN HNX
              have HXX := Aside0.mk hX
              clear hX
              go_loopw [9, 6] (fun v9 v6 w' => ∃ i : Nat, i ≤ cs.length ∧ v9 = .int .i64 i ∧ Aside0 (NI w f X (refC cs) (.slice AO cs.length cO) (.slice AF 4 cF) (.slice Aa nX ca) v6 i w')) (fun v9 _ _ => cs.length - (intOf v9).toNat)
              case atStart => exact ⟨0, by omega, rfl, HN⟩
              case round =>
                clear HN
                obtain ⟨i, hin, rfl, HN⟩ := hrel
                by_cases hlt3 : i < cs.length
                · obtain ⟨nF, hcF, hCF⟩ := Kd.R_reads' HN.out.rF
                  obtain ⟨ad, rfl, hx0⟩ := Kd.at_int hCF ((0 : Nat) : Int) (by omega) (by rw [← nF]; omega)
                  rw [natI_get HF0.out, Int.toNat_natCast, addr_zero] at hx0
                  obtain ⟨nO, hcO, hCO⟩ := Kd.R_reads' HN.out.rO
                  obtain ⟨ad2, A0, c0, rfl, hx1, hgc, hgC⟩ := rr_read hCO i (by rw [hrl]; exact hlt3) (x := sortI (cs.getD i ([], 0)).1) (by rw [← refC_get hlt3]; exact List.getElem?_eq_getElem _)
                  obtain ⟨ki, hki⟩ : ∃ q, chapmanref03_In.f q (natI f) (i : Int) = some (decide (i ∈ f)) := by
                    obtain ⟨K, hK⟩ := in_ev (natI f) (i : Int) (by rw [natI_length]; omega)
                    rw [show decide (i ∈ f) = decide ((i : Int) ∈ natI f) from decide_eq_decide.2 (by rw [mem_natI])]
                    exact ⟨K, hK K (Nat.le_refl _)⟩
                  have hin2 := fun W (hW : Kd.C (Kd.int .i64) W (some ad) (natI f).length (natI f)) => chapmanref03_In.calls ki (some ad) cF (natI f) (i : Int) _ W hW (by rw [← nF]; exact hcF) hki
                  rw [← nF] at hin2
                  have HIN := Aside0.mk hin2
                  have hnl := nextP_len f X (refC cs) i
                  have HNL := Aside0.mk hnl
                  have hcl := HOKC.out.num
                  clear hki hCF hCO hgC hin2 hnl nF nO hcF hcO
                  by_cases e0 : i = i0
                  · have hmem : i ∈ f := by rw [e0]; exact List.mem_of_mem_head? HFH.out
                    have HNP := Aside0.mk (nextP_hit (x := X) (G := refC cs) (e0 ▸ HFH.out))
                    rw [decide_eq_true hmem] at HIN
                    clear hmem
                    subst e0
                    go_wp2_with (at_builtin; refine Kd.R_append (Kd.slice 3 (Kd.int .i64)) (w0 := w) w.heap.size rfl (.tmp 55) (.tmp 57) 24 26 (.slice none 0 0) 24 rfl Try.underlying24 info26 rfl (by decide) (by decide) _ (nextP f X (refC cs) i) X [.slice Aa nX ca] (fun _ => True) (fun b => ∃ cells, wr.heap[b]? = some (.cells cells 3 (0, 0))) rfl rfl ?aP ?aK ?aF ?aO ?aB ?aS ?aL ?_; (case aP => exact ⟨_, rfl, typed3 HN.out.rA⟩); (case aK => exact fun b hb => apart26 HN.out.rN b hb); (case aF => exact fun _ _ => trivial); (case aO => exact HN.out.rN); (case aB => exact HN.out.below); (case aS => exact HN.out.below.size); (case aL => have := HNL.out; omega); intro v1 w5 ho hb hg5 hat; have HO5 := Aside0.mk ho; have HB5 := Aside0.mk hb; have HG5 := Aside0.mk hg5; have HAT := Aside0.mk hat; clear ho hb hg5 hat)
                    have hn5 : NI w f X (refC cs) (.slice (some ad2) cs.length cO) (.slice (some ad) 4 cF) (.slice Aa nX ca) v1 (i + 1) w5 := HN.out.app (j := i + 1) (by rw [HNP.out]; exact HO5.out) HB5.out HG5.out HAT.out
                    have HN5 := Aside0.mk hn5
                    clear hn5
                    refine (HIN.out w5 (by have := (Kd.R_reads' HN5.out.rF).2.2; rwa [natI_length, hfl] at this)).mono ?_
                    rintro e w6 ⟨rfl, hd⟩
                    have HN6 := Aside0.mk (HN5.out.moves (drawn_below hd))
                    clear hd
                    go_wp2
                    go_roundw
                    case rel => exact ⟨i + 1, by omega, by go_num, HN6⟩
                    case measure => simp [intOf]; omega
                  · by_cases hmem : i ∈ f
                    · have HNP := Aside0.mk (nextP_skip (x := X) (G := refC cs) HFH.out e0 hmem)
                      rw [decide_eq_true hmem] at HIN
                      have e1 : ¬ (i : Int) = (i0 : Int) := by omega
                      clear hmem e0
                      go_wp2_with (fail)
                      refine (HIN.out wr (by have := (Kd.R_reads' HN.out.rF).2.2; rwa [natI_length, hfl] at this)).mono ?_
                      rintro e w6 ⟨rfl, hd⟩
                      have hn6 : NI w f X (refC cs) (.slice (some ad2) cs.length cO) (.slice (some ad) 4 cF) (.slice Aa nX ca) u6 (i + 1) w6 := by
                        have := HN.out.moves (drawn_below hd)
                        exact ⟨this.rO, this.rF, this.rA, by rw [HNP.out]; exact this.rN, this.below⟩
                      have HN6 := Aside0.mk hn6
                      clear hd hn6
                      go_wp2
                      go_roundw
                      case rel => exact ⟨i + 1, by omega, by go_num, HN6⟩
                      case measure => simp [intOf]; omega
                    · have HNP := Aside0.mk (nextP_keep (x := X) (G := refC cs) (y := sortI (cs.getD i ([], 0)).1) HFH.out hmem (by rw [← refC_get hlt3]; exact List.getElem?_eq_getElem _))
                      rw [decide_eq_false hmem] at HIN
                      have e1 : ¬ (i : Int) = (i0 : Int) := by omega
                      obtain ⟨g, cap, eg, eg3⟩ := Kd.R_form HN.out.rO (by rw [hrl]; omega)
                      injection eg with eg eg4 eg5
                      injection eg with eg
                      subst eg
                      clear eg3 eg4 eg5
                      clear hmem e0 hx1 hgc
                      go_wp2_with (fail)
                      refine (HIN.out wr (by have := (Kd.R_reads' HN.out.rF).2.2; rwa [natI_length, hfl] at this)).mono ?_
                      rintro e w6 ⟨rfl, hd⟩
                      have HN6 := Aside0.mk (HN.out.moves (drawn_below hd))
                      obtain ⟨u, hce, hfz, hU⟩ := rr_get HN6.out.rO i hlt3
                      obtain ⟨A0, c0, eu, huc, _⟩ := Kd.R_reads hU
                      subst eu
                      have eg2 : (refC cs).getD i [] = sortI (cs.getD i ([], 0)).1 := by rw [← refC_get hlt3]; simp [List.getD_eq_getElem?_getD, hrl, hlt3]
                      rw [eg2] at hce hU huc
                      have HU := Aside0.mk (typed3 hU)
                      generalize (sortI (cs.getD i ([], 0)).1).length = nu at *
                      clear hd hfz hU eg2
                      go_wp2_with (at_builtin; refine Kd.R_append (Kd.slice 3 (Kd.int .i64)) (w0 := w) w.heap.size rfl (.tmp 63) (.tmp 68) 24 26 (.slice none 0 0) 24 rfl Try.underlying24 info26 rfl (by decide) (by decide) _ (nextP f X (refC cs) i) (sortI (cs.getD i ([], 0)).1) [.slice A0 nu c0] (fun _ => True) (fun b => ∃ cells, w6.heap[b]? = some (.cells cells 3 (0, 0))) rfl rfl ?aP ?aK ?aF ?aO ?aB ?aS ?aL ?_; (case aP => exact ⟨_, rfl, HU.out⟩); (case aK => exact fun b hb => apart26 HN6.out.rN b hb); (case aF => exact fun _ _ => trivial); (case aO => exact HN6.out.rN); (case aB => exact HN6.out.below); (case aS => exact HN6.out.below.size); (case aL => have := HNL.out; omega); intro v1 w5 ho hb hg5 hat; have HO5 := Aside0.mk ho; have HB5 := Aside0.mk hb; have HG5 := Aside0.mk hg5; have HAT := Aside0.mk hat; clear ho hb hg5 hat)
                      have hn5 : NI w f X (refC cs) (.slice (some ⟨g, 0, none⟩) cs.length cO) (.slice (some ad) 4 cF) (.slice Aa nX ca) v1 (i + 1) w5 := HN6.out.app (j := i + 1) (by rw [HNP.out]; exact HO5.out) HB5.out HG5.out HAT.out
                      have HN5 := Aside0.mk hn5
                      clear hn5
                      go_roundw
                      case rel => exact ⟨i + 1, by omega, by go_num, HN5⟩
                      case measure => simp [intOf]; omega
                · obtain rfl : i = cs.length := by omega
                  rw [hrl] at *
                  have h1 : CI w l (iterC l.length (startC (pcs l))) gk u6 wr := ⟨⟨cs', by rw [HNX.out]; exact HN.out.rN, HINV'.out, HOK'.out, HIT'.out, HLE'.out⟩, HN.out.below⟩
                  have H1 := Aside0.mk h1
                  clear h1
                  go_wp2
                  go_roundg gk
                  case measure => omega
                  case rel => exact H1
def chapmanref36_clusters.f (l0 : List S43) : Option (List (List Int)) := if validL (pcs l0) then some (refC (iterC l0.length (startC (pcs l0)))) else none
theorem chapmanref36_clusters.calls (A0 : Option Addr) (c0 : Nat) (l0 : List S43) (r : List (List Int)) (w : World) (hr0 : Kd.C k43 w A0 l0.length l0) (hc0 : l0.length ≤ c0) (h : chapmanref36_clusters.f l0 = some r) :
    Calls Try.prog 34 #[.slice A0 l0.length c0] w fun e w' => ∃ v0_ : Value, e = .returned v0_ ∧ Kd.R (Kd.slice 3 (Kd.int .i64)) 26 w' w.heap.size (fun _ => True) v0_ r ∧ Below w.heap.size w w' := by
  unfold chapmanref36_clusters.f at h
  split at h
  · rename_i hv
    injection h with h
    subst h
    exact clus34 A0 c0 l0 w hr0 hc0 hv
  · cases h
end Go.Proofs.Ytckempgpaojljaa.P
end
section
/- Clusters part the indices; what After makes of the groups that are chosen. -/
namespace Go.Proofs.Ytckempgpaojljaa.P
set_option linter.unusedVariables false
set_option linter.unusedSimpArgs false
open Go.RowKit Go.Proofs.YtckempgpaojljaaW.PrintWords Go.Proofs.YtckempgpaojljaaW.PrintLast Go.Proofs.YtckempgpaojljaaW.PrintMore
def hdC (c : List Int × Int) : Int := c.1.headD 0
def ixs (n : Nat) : List Int := (List.range n).map fun (i : Nat) => (i : Int)
structure PartC (n : Nat) (cs : List (List Int × Int)) : Prop where
  ne : ∀ c ∈ cs, c.1 ≠ []
  min : ∀ c ∈ cs, ∀ x ∈ c.1, hdC c ≤ x
  heads : (cs.map hdC).Pairwise (· < ·)
  perm : (cs.flatMap fun c => c.1).Perm (ixs n)
theorem split2 {α : Type} (cs : List α) (i j : Nat) (hij : i < j) (hj : j < cs.length) : ∃ (A B R : List α) (c d : α), cs = A ++ c :: (B ++ d :: R) ∧ A.length = i ∧ A.length + 1 + B.length = j := by
  refine ⟨cs.take i, (cs.drop (i + 1)).take (j - i - 1), cs.drop (j + 1), cs[i], cs[j], ?_, ?_, ?_⟩
  · have e : cs.drop j = (cs.drop (i + 1)).drop (j - i - 1) := by rw [List.drop_drop]; congr 1; omega
    rw [← List.drop_eq_getElem_cons hj, e, List.take_append_drop, ← List.drop_eq_getElem_cons (by omega), List.take_append_drop]
  · simp; omega
  · simp; omega
theorem PartC.merge {n : Nat} {cs : List (List Int × Int)} (h : PartC n cs) (i j : Nat) (hij : i < j) (hj : j < cs.length) : PartC n (mergeC cs i j) := by
  obtain ⟨A, B, R, c, d, rfl, rfl, rfl⟩ := split2 cs i j hij hj
  rw [mergeC_at]
  have hc := h.ne c (by simp)
  have hd : hdC (c.1 ++ d.1, c.2 + d.2) = hdC c := by
    unfold hdC
    cases hx : c.1 with
    | nil => exact absurd hx hc
    | cons x l => rfl
  have hcd : hdC c < hdC d := by
    have := h.heads
    rw [List.map_append, List.map_cons, List.map_append, List.map_cons, List.pairwise_append] at this
    have := this.2.1
    rw [List.pairwise_cons] at this
    exact this.1 _ (by simp)
  refine ⟨fun e he => ?_, fun e he x hx => ?_, ?_, ?_⟩
  · simp only [List.mem_append, List.mem_cons] at he
    rcases he with he | rfl | he | he
    · exact h.ne e (by simp [he])
    · simp [hc]
    · exact h.ne e (by simp [he])
    · exact h.ne e (by simp [he])
  · simp only [List.mem_append, List.mem_cons] at he
    rcases he with he | rfl | he | he
    · exact h.min e (by simp [he]) x hx
    · rw [hd]
      rcases List.mem_append.1 hx with hx | hx
      · exact h.min c (by simp) x hx
      · have := h.min d (by simp) x hx
        omega
    · exact h.min e (by simp [he]) x hx
    · exact h.min e (by simp [he]) x hx
  · refine List.Pairwise.sublist ?_ h.heads
    simp only [List.map_append, List.map_cons, hd]
    refine List.Sublist.append (List.Sublist.refl _) (List.Sublist.cons_cons _ ?_)
    exact List.Sublist.append (List.Sublist.refl _) (List.sublist_cons_self _ _)
  · refine List.Perm.trans ?_ h.perm
    simp only [List.flatMap_append, List.flatMap_cons, List.append_assoc]
    refine List.Perm.append_left _ (List.Perm.append_left _ ?_)
    rw [← List.append_assoc, ← List.append_assoc]
    exact List.Perm.append_right _ List.perm_append_comm
theorem PartC.step {n : Nat} {cs cs' : List (List Int × Int)} (h : PartC n cs) (hs : stepC cs = some cs') : PartC n cs' := by
  obtain ⟨i0, i1, i2, i3, hf, h0, h1, h2, h3, _⟩ := step_ref cs cs' hs
  unfold stepC at hs
  split at hs
  · exact absurd hs (by simp)
  · rename_i hn
    have hf2 : fourC cs = (posC cs (idx4 (cntC cs)) cs.length).take 4 := by unfold fourC; rw [if_neg hn]
    rw [← hf2, hf] at hs
    injection hs with hs
    rw [← hs]
    have l1 := mergeC_length cs i0 i1 (by omega)
    have k1 := h.merge i0 i1 (by omega) (by omega)
    have l2 := mergeC_length (mergeC cs i0 i1) i0 (i2 - 1) (by omega)
    have k2 := k1.merge i0 (i2 - 1) (by omega) (by omega)
    exact k2.merge i0 (i3 - 2) (by omega) (by omega)
theorem startC_heads (l : List S59) (k : Nat) : ((l.zipIdx k).map fun q => (([(q.2 : Int)], q.1.f0) : List Int × Int)).map hdC = (List.range' k l.length).map fun (i : Nat) => (i : Int) := by
  induction l generalizing k with
  | nil => rfl
  | cons x l ih =>
    rw [List.zipIdx_cons, List.map_cons, List.map_cons, ih, List.length_cons, List.range'_succ, List.map_cons]
    rfl
theorem startC_flat (l : List S59) (k : Nat) : (((l.zipIdx k).map fun q => (([(q.2 : Int)], q.1.f0) : List Int × Int)).flatMap fun c => c.1) = (List.range' k l.length).map fun (i : Nat) => (i : Int) := by
  induction l generalizing k with
  | nil => rfl
  | cons x l ih =>
    rw [List.zipIdx_cons, List.map_cons, List.flatMap_cons, ih, List.length_cons, List.range'_succ, List.map_cons]
    rfl
theorem PartC.start (l : List S59) : PartC l.length (startC l) := by
  refine ⟨fun c hc => ?_, fun c hc x hx => ?_, ?_, ?_⟩
  · obtain ⟨q, _, rfl⟩ := List.mem_map.1 hc
    simp
  · obtain ⟨q, _, rfl⟩ := List.mem_map.1 hc
    simp at hx
    subst hx
    exact Int.le_refl _
  · show (((l.zipIdx).map fun q => (([(q.2 : Int)], q.1.f0) : List Int × Int)).map hdC).Pairwise (· < ·)
    rw [startC_heads]
    rw [List.pairwise_map]
    exact List.Pairwise.imp (fun h => by omega) (List.pairwise_lt_range' (s := 0) (n := l.length) (step := 1))
  · show ((((l.zipIdx).map fun q => (([(q.2 : Int)], q.1.f0) : List Int × Int)).flatMap fun c => c.1)).Perm _
    rw [startC_flat, ← List.range_eq_range']
    exact List.Perm.refl _
theorem PartC.iter {n : Nat} (k : Nat) : ∀ {cs : List (List Int × Int)}, PartC n cs → PartC n (iterC k cs) := by
  induction k with
  | zero => intro cs h; exact h
  | succ k ih =>
    intro cs h
    unfold iterC
    cases hs : stepC cs with
    | none => exact h
    | some cs' => exact ih (h.step hs)
theorem InvC.iter {l : List S43} (k : Nat) : ∀ {cs : List (List Int × Int)}, InvC l cs → InvC l (iterC k cs) := by
  induction k with
  | zero => intro cs h; exact h
  | succ k ih =>
    intro cs h
    unfold iterC
    cases hs : stepC cs with
    | none => exact h
    | some cs' => exact ih (h.step hs)
theorem iterC_done (k : Nat) : ∀ (cs : List (List Int × Int)), OkC cs → cs.length ≤ k → stepC (iterC k cs) = none := by
  induction k with
  | zero =>
    intro cs h hl
    have : cs = [] := List.length_eq_zero_iff.1 (by omega)
    subst this
    cases hs : stepC [] with
    | none => exact hs
    | some cs' => have := (stepC_ok h hs).2; simp at this
  | succ k ih =>
    intro cs h hl
    unfold iterC
    cases hs : stepC cs with
    | none => exact hs
    | some cs' =>
      obtain ⟨h1, h2⟩ := stepC_ok h hs
      exact ih cs' h1 (by omega)
end Go.Proofs.Ytckempgpaojljaa.P
end
section
/- What After makes of the groups that are chosen: one piece for each cluster. -/
namespace Go.Proofs.Ytckempgpaojljaa.P
set_option linter.unusedVariables false
set_option linter.unusedSimpArgs false
open Go.RowKit Go.Proofs.YtckempgpaojljaaW.PrintWords Go.Proofs.YtckempgpaojljaaW.PrintLast Go.Proofs.YtckempgpaojljaaW.PrintMore
theorem incr_of {n : Int} : ∀ (l : List Int) (last : Int), l.Pairwise (· < ·) → (∀ x ∈ l, last < x ∧ x < n) → incr n last l = true := by
  intro l
  induction l with
  | nil => intro _ _ _; rfl
  | cons x l ih =>
    intro last hp hb
    rw [List.pairwise_cons] at hp
    obtain ⟨h1, h2⟩ := hb x (by simp)
    simp only [incr, Bool.and_eq_true, decide_eq_true_eq]
    exact ⟨⟨h1, h2⟩, ih x hp.2 (fun y hy => ⟨hp.1 y hy, (hb y (by simp [hy])).2⟩)⟩
def sumC (l : List S59) (g : List Int) : S59 := ⟨sumG (fun i => (rd_T59 l i).f0) g, sumG (fun i => (rd_T59 l i).f1) g⟩
end Go.Proofs.Ytckempgpaojljaa.P
end
section
/- After merging the groups that are chosen there is one piece for each cluster. -/
namespace Go.Proofs.Ytckempgpaojljaa.P
set_option linter.unusedVariables false
set_option linter.unusedSimpArgs false
open Go.RowKit Go.Proofs.YtckempgpaojljaaW.PrintWords Go.Proofs.YtckempgpaojljaaW.PrintLast Go.Proofs.YtckempgpaojljaaW.PrintMore
theorem ixs_nodup (n : Nat) : (ixs n).Nodup := by
  unfold ixs List.Nodup
  rw [List.pairwise_map]
  exact List.Pairwise.imp (fun h => by omega) (List.nodup_range (n := n))
theorem mem_ixs {n : Nat} {x : Int} : x ∈ ixs n ↔ 0 ≤ x ∧ x < n := by
  unfold ixs
  rw [List.mem_map]
  constructor
  · rintro ⟨i, hi, rfl⟩
    rw [List.mem_range] at hi
    omega
  · intro h
    exact ⟨x.toNat, by rw [List.mem_range]; omega, by omega⟩
theorem PartC.nodup {n : Nat} {cs : List (List Int × Int)} (h : PartC n cs) : (∀ c ∈ cs, c.1.Nodup) ∧ cs.Pairwise fun a b => ∀ x ∈ a.1, ∀ y ∈ b.1, x ≠ y := by
  have := (h.perm.nodup_iff).2 (ixs_nodup n)
  unfold List.Nodup at this
  rw [List.pairwise_flatMap] at this
  exact this
theorem PartC.bd {n : Nat} {cs : List (List Int × Int)} (h : PartC n cs) {c : List Int × Int} (hc : c ∈ cs) {x : Int} (hx : x ∈ c.1) : 0 ≤ x ∧ x < n := by
  have : x ∈ ixs n := h.perm.mem_iff.1 (List.mem_flatMap.2 ⟨c, hc, hx⟩)
  exact mem_ixs.1 this
theorem sortI_strict {l : List Int} (h : l.Nodup) : (sortI l).Pairwise (· < ·) := by
  have h1 := sortI_sorted l
  have h2 : (sortI l).Nodup := ((sortI_perm l).nodup_iff).2 h
  exact (h1.and h2).imp (fun hab => by
    have := hab.1
    have := hab.2
    simp at *
    omega)
theorem PartC.ok {n : Nat} {cs : List (List Int × Int)} (h : PartC n cs) {c : List Int × Int} (hc : c ∈ cs) : okG n (sortI c.1) = true := by
  simp only [okG, Bool.and_eq_true, decide_eq_true_eq]
  refine ⟨incr_of _ _ (sortI_strict (h.nodup.1 c hc)) (fun x hx => ?_), ?_⟩
  · have := h.bd hc ((sortI_perm _).mem_iff.1 hx)
    omega
  · rw [sortI_length]
    exact List.length_pos_iff.2 (h.ne c hc)
theorem groupsC_mem {cs : List (List Int × Int)} {g : List Int} : g ∈ groupsC cs ↔ ∃ c ∈ cs, 1 < c.1.length ∧ sortI c.1 = g := by
  unfold groupsC
  simp only [List.mem_map, List.mem_filter, decide_eq_true_eq, and_assoc]
end Go.Proofs.Ytckempgpaojljaa.P
end
section
namespace Go.Proofs.Ytckempgpaojljaa.P
open Go.RowKit Go.Proofs.YtckempgpaojljaaW.PrintWords Go.Proofs.YtckempgpaojljaaW.PrintLast Go.Proofs.YtckempgpaojljaaW.PrintMore
attribute [local go_sem] max2_int min2_int max_two min_two max_three min_three max_four min_four   -- for this text's walks alone
set_option linter.unusedVariables false
set_option linter.unusedSimpArgs false
end Go.Proofs.Ytckempgpaojljaa.P
end
section
/- Few pieces are left after merging the groups that are chosen, and nothing is chosen any more. -/
namespace Go.Proofs.Ytckempgpaojljaa.P
set_option linter.unusedVariables false
set_option linter.unusedSimpArgs false
open Go.RowKit Go.Proofs.YtckempgpaojljaaW.PrintWords Go.Proofs.YtckempgpaojljaaW.PrintLast Go.Proofs.YtckempgpaojljaaW.PrintMore
def finC (l : List S43) : List (List Int × Int) := iterC l.length (startC (pcs l))
def outL (l : List S43) : List S59 := (finC l).map fun c => sumC (pcs l) c.1
theorem finC_ok {l : List S43} (hv : validL (pcs l) = true) : OkC (finC l) ∧ PartC l.length (finC l) ∧ InvC l (finC l) ∧ stepC (finC l) = none := by
  have h1 := startC_ok hv
  refine ⟨iterC_ok _ _ h1, ?_, (InvC.start l).iter _, ?_⟩
  · have := (PartC.start (pcs l)).iter l.length
    rw [pcs_length] at this
    exact this
  · exact iterC_done _ _ h1 (by simp [startC, pcs])
theorem chosen_groups {l : List S43} (hv : validL (pcs l) = true) : choose (pcs l) = groupsC (finC l) := by
  unfold choose finC
  rw [pcs_length]
theorem rd_pcs (l : List S43) (i : Int) : rd_T59 (pcs l) i = ⟨(rd_T43 l i).f0, (rd_T43 l i).f1⟩ := by
  unfold rd_T59 rd_T43 pcs
  rw [List.getD_eq_getElem?_getD, List.getD_eq_getElem?_getD, List.getElem?_map]
  cases l[i.toNat]? <;> rfl
end Go.Proofs.Ytckempgpaojljaa.P
end
section
/- The facts that the law CostFew asks of the pieces that are left. -/
namespace Go.Proofs.Ytckempgpaojljaa.P
set_option linter.unusedVariables false
set_option linter.unusedSimpArgs false
open Go.RowKit Go.Proofs.YtckempgpaojljaaW.PrintWords Go.Proofs.YtckempgpaojljaaW.PrintLast Go.Proofs.YtckempgpaojljaaW.PrintMore
theorem madeL_len (x : List S50) : (madeL x).length ≤ 60 := by
  unfold madeL
  rw [List.length_map, List.length_take]
  omega
theorem iterC_len (k : Nat) : ∀ (cs : List (List Int × Int)), OkC cs → (iterC k cs).length ≤ cs.length := by
  induction k with
  | zero => intro cs _; exact Nat.le_refl _
  | succ k ih =>
    intro cs h
    unfold iterC
    cases hs : stepC cs with
    | none => exact Nat.le_refl _
    | some cs' =>
      obtain ⟨h1, h2⟩ := stepC_ok h hs
      have := ih cs' h1
      show (iterC k cs').length ≤ cs.length
      omega
theorem outL_len {l : List S43} (hv : validL (pcs l) = true) : (outL l).length ≤ l.length := by
  unfold outL finC
  rw [List.length_map]
  have := iterC_len l.length _ (startC_ok hv)
  simp [startC, pcs] at this
  exact this
theorem sum_le_of {α : Type} (l : List α) (f : α → Int) (B : Int) (h : ∀ p ∈ l, 0 ≤ f p ∧ f p ≤ B) : 0 ≤ (l.map f).sum ∧ (l.map f).sum ≤ B * l.length := by
  have := psum_bd f l B h l.length (Nat.le_refl _)
  rwa [psum_all] at this
end Go.Proofs.Ytckempgpaojljaa.P
end
section
/- The facts that the law CostWorth asks of the groups that are worth merging. -/
namespace Go.Proofs.Ytckempgpaojljaa.P
set_option linter.unusedVariables false
set_option linter.unusedSimpArgs false
open Go.RowKit Go.Proofs.YtckempgpaojljaaW.PrintWords Go.Proofs.YtckempgpaojljaaW.PrintLast Go.Proofs.YtckempgpaojljaaW.PrintMore
theorem choose_ok {l : List S43} (hv : validL (pcs l) = true) : ∀ g ∈ choose (pcs l), okG l.length g = true ∧ 1 < g.length ∧ g.length ≤ l.length := by
  intro g hg
  rw [chosen_groups hv] at hg
  obtain ⟨c, hc, h1, rfl⟩ := groupsC_mem.1 hg
  have hok := (finC_ok hv).2.1.ok hc
  refine ⟨hok, by rw [sortI_length]; exact h1, ?_⟩
  have := okG_len hok
  omega
theorem choose_num {l : List S43} (hv : validL (pcs l) = true) : (choose (pcs l)).length ≤ l.length := by
  rw [chosen_groups hv]
  have h1 := groups_len (finC l)
  have h2 := outL_len hv
  unfold outL at h2
  rw [List.length_map] at h2
  omega
end Go.Proofs.Ytckempgpaojljaa.P
end
section
/- The facts that the law CostSums asks of one merged group. -/
namespace Go.Proofs.Ytckempgpaojljaa.P
set_option linter.unusedVariables false
set_option linter.unusedSimpArgs false
open Go.RowKit Go.Proofs.YtckempgpaojljaaW.PrintWords Go.Proofs.YtckempgpaojljaaW.PrintLast Go.Proofs.YtckempgpaojljaaW.PrintMore
theorem sum_add {α : Type} (f g : α → Int) (l : List α) : (l.map fun x => f x + g x).sum = (l.map f).sum + (l.map g).sum := by
  induction l with
  | nil => rfl
  | cons a l ih => simp only [List.map_cons, List.sum_cons, ih]; omega
theorem map_const_sum {α : Type} (c : Int) (l : List α) : (l.map fun _ => c).sum = c * l.length := by
  induction l with
  | nil => simp
  | cons a l ih => simp only [List.map_cons, List.sum_cons, ih, List.length_cons, Int.natCast_add, Int.mul_add]; omega
end Go.Proofs.Ytckempgpaojljaa.P
end
section
/- What the calls of the law CostSums answer. -/
namespace Go.Proofs.Ytckempgpaojljaa.P
set_option linter.unusedVariables false
set_option linter.unusedSimpArgs false
open Go.RowKit Go.Proofs.YtckempgpaojljaaW.PrintWords Go.Proofs.YtckempgpaojljaaW.PrintLast Go.Proofs.YtckempgpaojljaaW.PrintMore
end Go.Proofs.Ytckempgpaojljaa.P
end
section
/- What the law CostChoice asks: the plain law. -/
namespace Go.Proofs.Ytckempgpaojljaa.P
set_option linter.unusedVariables false
set_option linter.unusedSimpArgs false
open Go.RowKit Go.Proofs.YtckempgpaojljaaW.PrintWords Go.Proofs.YtckempgpaojljaaW.PrintLast Go.Proofs.YtckempgpaojljaaW.PrintMore
theorem sortI_len (l : List Int) : (sortI l).length = l.length := (sortI_perm l).length_eq
end Go.Proofs.Ytckempgpaojljaa.P
end
section
namespace Go.Proofs.Ytckempgpaojljaa.P
open Go.RowKit Go.Proofs.YtckempgpaojljaaW.PrintWords Go.Proofs.YtckempgpaojljaaW.PrintLast Go.Proofs.YtckempgpaojljaaW.PrintMore
attribute [local go_sem] max2_int min2_int max_two min_two max_three min_three max_four min_four   -- for this text's walks alone
set_option linter.unusedVariables false
set_option linter.unusedSimpArgs false
def chapmanref36_ChooseIn.l0 : Nat → List (List Int) → Int → List (List Int) → Int → Int → Option ((List (List Int)) × (List (S43)) × Int × Int)
  | 0, _, _, _, _, _ => none
  | k + 1, x3, x5, x217000, x217002, x217003 => if x5 < (x3.length : Int) then (if 0 ≤ x5 then (if ((rd_L5 x3 x5).length : Int) > 1 then (if x217000.length < 5864062014805 then (chapmanref36_ChooseIn.l0 k x3 (wrap64 (x5 + 1)) (x217000 ++ [rd_L5 x3 x5]) x217002 x217003) else (none)) else (chapmanref36_ChooseIn.l0 k x3 (wrap64 (x5 + 1)) x217000 x217002 x217003)) else (none)) else (some (x217000, ([] : List (S43)), x217002, x217003))
def chapmanref36_ChooseIn.f (k : Nat) (l0 : List (S43)) : Option ((List (List Int)) × (List (S43)) × Int × Int) := (chapmanref36_Valid.f k l0).bind fun t212 => (if t212 = true then ((chapmanref36_clusters.f l0).bind fun t213 => (chapmanref36_ChooseIn.l0 k t213 0 ([] : List (List Int)) 0 0)) else (some (([] : List (List Int)), ([] : List (S43)), 0, 1)))
def chapmanref36_ChooseIn.T9 : Bool × List (List Nat × List Nat) := (true, [([], []), ([0], [0]), ([], []), ([], []), ([2, 3], [2, 3]), ([4], [4]), ([5], [5]), ([1, 6], [1, 6]), ([0, 1, 2, 3, 4, 5, 6, 7], []), ([8, 7, 7, 0, 1, 2, 3, 4, 5, 6, 7], [7, 8])])
def chapmanref36_ChooseIn.B9 : List Nat := [0, 1, 0, 0, 12, 28, 60, 127, 255, 511]
theorem chapmanref36_ChooseIn.tab9 : rtab .any (opsOf Try.f16 9) = chapmanref36_ChooseIn.T9 := by kernel_rfl
theorem chapmanref36_ChooseIn.bits9 : waitsOk chapmanref36_ChooseIn.T9.2 chapmanref36_ChooseIn.B9 = true := by kernel_rfl
set_option maxHeartbeats 8000000 in
set_option maxRecDepth 100000 in
theorem chapmanref36_ChooseIn.calls (k : Nat) (A0 : Option Addr) (c0 : Nat) (l0 : List (S43)) (r1 : List (List Int)) (r2 : List (S43)) (r3 : Int) (r4 : Int) (w : World) (hr0 : Kd.C k43 w A0 l0.length l0) (hc0 : l0.length ≤ c0) (h : chapmanref36_ChooseIn.f k l0 = some (r1, r2, r3, r4)) :
    Calls Try.prog 16 #[.slice A0 l0.length c0] w fun e w' => ∃ v0_ v1_ : Value, e = .returned (.agg #[v0_, v1_, .int .i64 r3, .int .i64 r4]) ∧ Kd.N (Kd.slice 3 (Kd.int .i64)) 26 w' w.heap.size (fun k_ => (w.heap.size ≤ k_) ∧ some k_ ≠ (v1_ : Value).ownBlock) v0_ r1 ∧ Kd.R k43 43 w' w.heap.size (fun k_ => (w.heap.size ≤ k_)) v1_ r2 ∧ Below w.heap.size w w' := by
  have hu36 := Try.underlying36
  have HR0 := Aside0.mk hr0
  have HC0 := Aside0.mk hc0
  clear hr0 hc0
  have HB := Aside0.mk (Below.refl w.heap.size w)
  have H : ((chapmanref36_Valid.f k l0).bind fun t212 => (if t212 = true then ((chapmanref36_clusters.f l0).bind fun t213 => (chapmanref36_ChooseIn.l0 k t213 0 ([] : List (List Int)) 0 0)) else (some (([] : List (List Int)), ([] : List (S43)), 0, 1)))) = some (r1, r2, r3, r4) := h
  clear h
  replace H := Option.bind_eq_some_iff.mp H
  obtain ⟨t212, A20, H⟩ := H
  replace H : (if t212 = true then ((chapmanref36_clusters.f l0).bind fun t213 => (chapmanref36_ChooseIn.l0 k t213 0 ([] : List (List Int)) 0 0)) else (some (([] : List (List Int)), ([] : List (S43)), 0, 1))) = some (r1, r2, r3, r4) := H
  have A2 := Aside0.mk A20
  clear A20
  by_cases c3 : t212 = true
  · subst c3
    have H1 : ((chapmanref36_clusters.f l0).bind fun t213 => (chapmanref36_ChooseIn.l0 k t213 0 ([] : List (List Int)) 0 0)) = some (r1, r2, r3, r4) := by rw [if_pos rfl] at H; exact H
    clear H
    have H := H1
    clear H1
    replace H := Option.bind_eq_some_iff.mp H
    obtain ⟨t213, A40, H⟩ := H
    replace H : (chapmanref36_ChooseIn.l0 k t213 0 ([] : List (List Int)) 0 0) = some (r1, r2, r3, r4) := H
    have A4 := Aside0.mk A40
    clear A40
    have H' := Aside0.mk H
    clear H
    go_enter Try.func16, Try.ntmps16
    go_wp2_with (first | ((with_reducible refine gate_dst (N := 2) rfl ?_); refine box_event ?hg (N := 2) ?hd (cs := #[.slice none 0 0, .slice none 0 0, .int .i64 0, .int .i64 0]) (t := 36) ?hr ?_; (case hd => rfl); (case hg => rfl); (case hr => first | (go_simp; done) | (go_simp; rfl)); intro gb211 hg w5 hbox hb; have n0_ := Aside0.mk (below_step (by repeat (first | (with_reducible first | exact HB.out | apply below_alloc | apply pw_below_drewN | apply below_drew1) | exact HB.out)) hb); have n1_ := Aside0.mk (hbox); have n2_ := Aside0.mk ((by rw [hg]; exact (below_size (by repeat (first | (with_reducible first | exact HB.out | apply below_alloc | apply pw_below_drewN | apply below_drew1) | exact HB.out))) : w.heap.size ≤ gb211)); have n3_ := Aside0.mk ((by rw [hg]; exact (below_size (by repeat (first | (with_reducible first | exact HB.out | apply below_alloc | apply pw_below_drewN | apply below_drew1) | exact HB.out))) : w.heap.size ≤ gb211)); clear HB; have HB := n0_; have BK211 := n1_; have GW211 := n2_; have GE211 := n3_; clear n0_ n1_ n2_ n3_; clear hb hbox hg) | ((with_reducible refine gate_callee (f := 13) rfl ?_); refine goesL_ (some 7) rfl rfl Try.func13 (by kernel_rfl) rfl #[.slice A0 l0.length c0] rfl (by (try simp only [List.map_toArray, List.map_cons, List.map_nil]); first | done | rfl | (simp only [List.length_drop, List.length_take]; rfl)) ?_; (with_reducible refine (chapmanref36_Valid.calls k _ _ l0 true _ ?side1 ?side2 A2.out).mono ?_); (case side1 => repeat (first | exact (Kd.C_below HR0.out HB.out) | (with_reducible refine Kd.C_alloc ?_ _) | (with_reducible refine Kd.C_drewN ?_ _) | (with_reducible refine Kd.C_drew ?_))); (case side2 => exact HC0.out); rintro e w' ⟨rfl, ⟨nd, rfl⟩⟩; refine ⟨_, rfl, ?_⟩; (try (rw [drewN_self w5]; generalize hq_ : World.drewN w5 _ = w5; have n0_ : Aside0 (w5.heap[gb211]? = some (.cells #[.slice none 0 0, .slice none 0 0, .int .i64 0, .int .i64 0] 36 (0, 0))) := ⟨by rw [← hq_]; exact (by (with_reducible repeat (first | refine blk_drewN ?_ _ | refine blk_drew ?_ | refine blk_alloc ?_ _)); exact BK211.out)⟩; have n1_ : Aside0 (Below w.heap.size w w5) := ⟨by rw [← hq_]; exact (by repeat (first | (with_reducible first | exact HB.out | apply below_alloc | apply pw_below_drewN | apply below_drew1 | refine below_set ?_ GE211.out) | exact HB.out))⟩; clear BK211 HB hq_; have BK211 := n0_; have HB := n1_; clear n0_ n1_))) | ((with_reducible refine gate_callee (f := 34) rfl ?_); refine goesL_ (some 11) rfl rfl Try.func34 (by kernel_rfl) rfl #[.slice A0 l0.length c0] rfl (by (try simp only [List.map_toArray, List.map_cons, List.map_nil]); first | done | rfl | (simp only [List.length_drop, List.length_take]; rfl)) ?_; (with_reducible refine (chapmanref36_clusters.calls _ _ l0 t213 _ ?side1 ?side2 A4.out).mono ?_); (case side1 => repeat (first | exact (Kd.C_below HR0.out HB.out) | (with_reducible refine Kd.C_alloc ?_ _) | (with_reducible refine Kd.C_drewN ?_ _) | (with_reducible refine Kd.C_drew ?_))); (case side2 => exact HC0.out); rintro e w6 ⟨v214, rfl, ho0, hb⟩; refine ⟨_, rfl, ?_⟩; have n0_ := Aside0.mk (Kd.N_lower (Kd.N_mono (ok' := fun k_ => (w.heap.size ≤ k_) ∧ k_ ≠ gb211) (Kd.R_N (Kd.R_bound ho0)) (fun k_ hk_ => ⟨(Nat.le_trans (below_size (by repeat (first | (with_reducible first | exact HB.out | apply below_alloc | apply pw_below_drewN | apply below_drew1 | refine below_set ?_ GE211.out) | exact HB.out))) hk_.2.1), (Kd.freshB (g := gb211) (o := .cells #[.slice none 0 0, .slice none 0 0, .int .i64 0, .int .i64 0] 36 (0, 0)) (by (with_reducible repeat (first | refine blk_drewN ?_ _ | refine blk_drew ?_ | refine blk_alloc ?_ _)); exact BK211.out) k_ hk_.2.1)⟩)) (below_size (by repeat (first | (with_reducible first | exact HB.out | apply below_alloc | apply pw_below_drewN | apply below_drew1 | refine below_set ?_ GE211.out) | exact HB.out)))); have n1_ := Aside0.mk (blk_below (g := gb211) (o := .cells #[.slice none 0 0, .slice none 0 0, .int .i64 0, .int .i64 0] 36 (0, 0)) (by (with_reducible repeat (first | refine blk_drewN ?_ _ | refine blk_drew ?_ | refine blk_alloc ?_ _)); exact BK211.out) hb); have n2_ := Aside0.mk (below_step (by repeat (first | (with_reducible first | exact HB.out | apply below_alloc | apply pw_below_drewN | apply below_drew1 | refine below_set ?_ GE211.out) | exact HB.out)) hb); clear BK211; clear HB; have HO215 := n0_; have BK211 := n1_; have HB := n2_; clear n0_ n1_ n2_; (try clear hb); (try clear hb2); (try clear hk); (try clear hi); (try clear ho0)) | ((with_reducible refine gate_dst (N := 4) rfl ?_); refine box_event ?hg (N := 4) ?hd (cs := #[.slice none 0 0, .slice none 0 0, .int .i64 0, .int .i64 0]) (t := 36) ?hr ?_; (case hd => rfl); (case hg => rfl); (case hr => first | (go_simp; done) | (go_simp; rfl)); intro gb216 hg w7 hbox hb; have n0_ := Aside0.mk (Kd.N_below (Kd.N_elderB (by (with_reducible repeat (first | apply Kd.N_alloc | apply Kd.N_drewN | apply Kd.N_drew)); exact HO215.out) gb216 (Nat.le_of_eq hg.symm)) hb); have n1_ := Aside0.mk (blk_below (g := gb211) (o := .cells #[.slice none 0 0, .slice none 0 0, .int .i64 0, .int .i64 0] 36 (0, 0)) (by (with_reducible repeat (first | refine blk_drewN ?_ _ | refine blk_drew ?_ | refine blk_alloc ?_ _)); exact BK211.out) hb); have n2_ := Aside0.mk (below_step (by repeat (first | (with_reducible first | exact HB.out | apply below_alloc | apply pw_below_drewN | apply below_drew1 | refine below_set ?_ GE211.out) | exact HB.out)) hb); have n3_ := Aside0.mk (hbox); have n4_ := Aside0.mk ((by rw [hg]; exact (below_size (by repeat (first | (with_reducible first | exact HB.out | apply below_alloc | apply pw_below_drewN | apply below_drew1 | refine below_set ?_ GE211.out) | exact HB.out))) : w.heap.size ≤ gb216)); have n5_ := Aside0.mk ((by rw [hg]; exact (below_size (by repeat (first | (with_reducible first | exact HB.out | apply below_alloc | apply pw_below_drewN | apply below_drew1 | refine below_set ?_ GE211.out) | exact HB.out))) : w.heap.size ≤ gb216)); have n6_ := Aside0.mk ((by rw [hg]; exact Nat.ne_of_lt (blk_lt (g := gb211) (o := .cells #[.slice none 0 0, .slice none 0 0, .int .i64 0, .int .i64 0] 36 (0, 0)) (by (with_reducible repeat (first | refine blk_drewN ?_ _ | refine blk_drew ?_ | refine blk_alloc ?_ _)); exact BK211.out)) : gb211 ≠ gb216)); have n7_ := Aside0.mk ((by rw [hg]; exact Nat.ne_of_gt (blk_lt (g := gb211) (o := .cells #[.slice none 0 0, .slice none 0 0, .int .i64 0, .int .i64 0] 36 (0, 0)) (by (with_reducible repeat (first | refine blk_drewN ?_ _ | refine blk_drew ?_ | refine blk_alloc ?_ _)); exact BK211.out)) : gb216 ≠ gb211)); clear HO215; clear BK211; clear HB; have HO215 := n0_; have BK211 := n1_; have HB := n2_; have BK216 := n3_; have GW216 := n4_; have GE216 := n5_; have NB211_216 := n6_; have NB216_211 := n7_; clear n0_ n1_ n2_ n3_ n4_ n5_ n6_ n7_; clear hb hbox hg; have hnb8 := NB216_211.out; have hnc8 := NB211_216.out; have hcz9_0 : w7.cell? ⟨gb216, 0, none⟩ = some (.slice none 0 0) := (blk_cell BK216.out 0).trans rfl; have hcz9_1 : w7.cell? ⟨gb216, 1, none⟩ = some (.slice none 0 0) := (blk_cell BK216.out 1).trans rfl; have hcz9_2 : w7.cell? ⟨gb216, 2, none⟩ = some (.int .i64 0) := (blk_cell BK216.out 2).trans rfl; have hcz9_3 : w7.cell? ⟨gb216, 3, none⟩ = some (.int .i64 0) := (blk_cell BK216.out 3).trans rfl; have hfz9_0 := blk_frozen BK216.out 0; have hfz9_1 := blk_frozen BK216.out 1; have hfz9_2 := blk_frozen BK216.out 2; have hfz9_3 := blk_frozen BK216.out 3))
    go_loopg [5] k (fun kq v5 w' => ∃ (x5_1 : Int) (x217000_1 : List (List Int)) (u217000 : Value), v5 = .int .i64 x5_1 ∧ Aside0 (chapmanref36_ChooseIn.l0 kq t213 x5_1 x217000_1 0 0 = some (r1, r2, r3, r4)) ∧ Aside0 (kq ≤ k) ∧ Aside0 (Kd.N (Kd.slice 3 (Kd.int .i64)) 26 w' w.heap.size (fun k_ => (w.heap.size ≤ k_) ∧ some k_ ≠ (u217000 : Value).ownBlock ∧ k_ ≠ gb211 ∧ k_ ≠ gb216) v214 t213) ∧ Aside0 (Kd.N (Kd.slice 3 (Kd.int .i64)) 26 w' w.heap.size (fun k_ => (w.heap.size ≤ k_) ∧ some k_ ≠ (v214 : Value).ownBlock ∧ k_ ≠ gb211 ∧ k_ ≠ gb216) u217000 x217000_1) ∧ Aside0 (w'.heap[gb211]? = some (.cells #[(.slice none 0 0), (.slice none 0 0), .int .i64 0, .int .i64 0] 36 (0, 0))) ∧ Aside0 (w'.heap[gb216]? = some (.cells #[u217000, (.slice none 0 0), .int .i64 0, .int .i64 0] 36 (0, 0))) ∧ Aside0 (Below w.heap.size w w'))
    case atStart => exact ⟨(0), (([] : List (List Int))), (.slice none 0 0), (by first | rfl | (simp; done) | (simp [*]; done)), H', ⟨Nat.le_refl _⟩, ⟨by (with_reducible repeat (first | apply Kd.N_alloc | apply Kd.N_drewN | apply Kd.N_drew)); exact Kd.N_mono (Kd.N_far (p := ⟨gb216, 3, none⟩) (Kd.N_far (p := ⟨gb216, 2, none⟩) (Kd.N_far (p := ⟨gb216, 1, none⟩) (Kd.N_far (p := ⟨gb216, 0, none⟩) (Kd.N_mono HO215.out (fun k_ hk => (⟨hk, hk.2⟩ : _ ∧ k_ ≠ gb216))) (fun _ hk => hk.2) (.slice none 0 0)) (fun _ hk => hk.2) (.slice none 0 0)) (fun _ hk => hk.2) (.int .i64 0)) (fun _ hk => hk.2) (.int .i64 0)) (fun _ hk => ⟨hk.1.1.1, ⟨(by simp [Value.ownBlock]), ⟨hk.1.1.2, hk.1.2⟩⟩⟩)⟩, ⟨by first | exact Kd.R_nil _ _ _ _ _ | exact Kd.N_nil _ _ _ _ _ | exact Kd.V_nil _ _ _ _ _ | exact Kd.Q_nil _ _ _ _ _ | exact Kd.S_nil _ _ _ _ _⟩, ⟨by (with_reducible repeat (first | refine blk_drewN ?_ _ | refine blk_drew ?_ | refine blk_alloc ?_ _)); refine blk_far ?_ NB211_216.out _; (with_reducible repeat (first | refine blk_drewN ?_ _ | refine blk_drew ?_ | refine blk_alloc ?_ _)); refine blk_far ?_ NB211_216.out _; (with_reducible repeat (first | refine blk_drewN ?_ _ | refine blk_drew ?_ | refine blk_alloc ?_ _)); refine blk_far ?_ NB211_216.out _; (with_reducible repeat (first | refine blk_drewN ?_ _ | refine blk_drew ?_ | refine blk_alloc ?_ _)); refine blk_far ?_ NB211_216.out _; (with_reducible repeat (first | refine blk_drewN ?_ _ | refine blk_drew ?_ | refine blk_alloc ?_ _)); exact BK211.out⟩, ⟨by (with_reducible repeat (first | refine blk_drewN ?_ _ | refine blk_drew ?_ | refine blk_alloc ?_ _)); refine blk_put (cs := #[.slice none 0 0, .slice none 0 0, .int .i64 0, .int .i64 0]) ?_ 3 _ rfl; (with_reducible repeat (first | refine blk_drewN ?_ _ | refine blk_drew ?_ | refine blk_alloc ?_ _)); refine blk_put (cs := #[.slice none 0 0, .slice none 0 0, .int .i64 0, .int .i64 0]) ?_ 2 _ rfl; (with_reducible repeat (first | refine blk_drewN ?_ _ | refine blk_drew ?_ | refine blk_alloc ?_ _)); refine blk_put (cs := #[.slice none 0 0, .slice none 0 0, .int .i64 0, .int .i64 0]) ?_ 1 _ rfl; (with_reducible repeat (first | refine blk_drewN ?_ _ | refine blk_drew ?_ | refine blk_alloc ?_ _)); refine blk_put (cs := #[.slice none 0 0, .slice none 0 0, .int .i64 0, .int .i64 0]) ?_ 0 _ rfl; (with_reducible repeat (first | refine blk_drewN ?_ _ | refine blk_drew ?_ | refine blk_alloc ?_ _)); exact BK216.out⟩, ⟨by repeat (first | (with_reducible first | exact HB.out | apply below_alloc | apply pw_below_drewN | apply below_drew1 | refine below_set ?_ GE211.out | refine below_set ?_ GE216.out) | exact HB.out)⟩⟩
    case round =>
      clear H'
      try clear c1
      try clear p2
      try clear c3
      try clear c8
      try clear hcz9_0
      try clear hcz9_1
      try clear hcz9_2
      try clear hcz9_3
      try clear hfz9_0
      try clear hfz9_1
      try clear hfz9_2
      try clear hfz9_3
      obtain ⟨x5_1, x217000_1, u217000, rfl, HA, HK1, HO_3, HO_217000, BK211, BK216, HB⟩ := hrel
      cases gk with
      | zero => exact absurd HA.out (by simp [chapmanref36_ChooseIn.l0])
      | succ k1 =>
        have H := HA.out
        clear HA
        simp only [chapmanref36_ChooseIn.l0] at H
        by_cases c10 : x5_1 < (t213.length : Int)
        · rw [if_pos c10] at H
          have c10b0 : decide (x5_1 < (t213.length : Int)) = true := decide_eq_true c10
          clear c10
          by_cases c11 : 0 ≤ x5_1
          · rw [if_pos c11] at H
            have c11b0 : decide (0 ≤ x5_1) = true := decide_eq_true c11
            clear c11
            by_cases c12 : ((rd_L5 t213 x5_1).length : Int) > 1
            · rw [if_pos c12] at H
              have c12b0 : decide (1 < ((rd_L5 t213 x5_1).length : Int)) = true := decide_eq_true c12
              have c12b1 : decide (1 < (rd_L5 t213 x5_1).length) = true := decide_eq_true (by omega)
              clear c12
              by_cases c13 : x217000_1.length < 5864062014805
              · rw [if_pos c13] at H
                have LMc13 := Aside0.mk c13
                clear c13
                obtain ⟨y219, hy219⟩ : ∃ y_ : List (List Int), y_ = (x217000_1 ++ [rd_L5 t213 x5_1]) := ⟨_, rfl⟩
                replace H : (chapmanref36_ChooseIn.l0 k1 t213 (wrap64 (x5_1 + 1)) y219 0 0) = some (r1, r2, r3, r4) := by first | (rw [hy219]; with_reducible exact H) | (have H2_ := (Option.bind_some _ _).symm.trans H; rw [hy219]; with_reducible exact H2_) | (have H2_ := (Option.bind_some _ _).symm.trans H; with_reducible exact H2_) | with_reducible exact H | (rw [hy219]; exact H) | exact H
                have Ny219 := Aside0.mk hy219
                clear hy219
                have H' := Aside0.mk H
                clear H
                obtain ⟨Ao14, co14, eo14⟩ := Kd.N_slice HO_3.out
                subst eo14
                have p217 : 0 ≤ (x5_1 : Int) := of_decide_eq_true (by first | (with_reducible assumption) | assumption)
                have q217 : x5_1 < (t213.length : Int) := of_decide_eq_true (by first | (with_reducible assumption) | assumption)
                obtain ⟨ad217, A217_0, c217_0, e217, hx217_0, hl217_0, hi217_0⟩ := at_L5 (Kd.N_reads' HO_3.out).2.2 x5_1 p217 q217
                cases e217
                obtain ⟨ce217, hce217, hMe217, hcc217⟩ := Kd.N_get HO_3.out [] x5_1 p217 (by first | exact q217 | exact of_decide_eq_true (by first | (with_reducible assumption) | assumption) | (have e_ := (Kd.N_reads' HO_3.out).1; omega))
                obtain ⟨ua217_0, uc217_0, rfl, ul217_0, ge217_0⟩ := Kd.FK_slice_open hMe217
                have hv217_0 := hcc217 0 _ rfl
                rw [Nat.add_zero, show ((Kd.slice 3 (Kd.int .i64))).sz = 1 from rfl, Nat.mul_one] at hv217_0
                replace hv217_0 := Option.some.inj (hv217_0.symm.trans hx217_0)
                injection hv217_0 with hva_ hvn_ hvc_
                rw [hva_] at ge217_0
                rw [hvc_] at ul217_0
                have HL217_0 := Aside0.mk (show Kd.V (Kd.int .i64) 3 _ w.heap.size _ _ (rd_L5 t213 x5_1) from Kd.V_mk ul217_0 ge217_0)
                clear hva_ hvn_ hvc_ ge217_0 ul217_0
                clear hcc217 hce217
                have HR217_0 := Aside0.mk hi217_0
                have HC217_0 := Aside0.mk hl217_0
                clear hi217_0 hl217_0
                replace p217 := eq_true p217
                replace q217 := eq_true q217
                try go_wp2
                have n0_ := Aside0.mk (Kd.N_drew HO_3.out)
                have n1_ := Aside0.mk (Kd.N_drew HO_217000.out)
                have n2_ := Aside0.mk (Kd.V_drew HL217_0.out)
                have n3_ := Aside0.mk (blk_drew BK211.out)
                have n4_ := Aside0.mk (blk_drew BK216.out)
                have n5_ := Aside0.mk (Kd.C_drew HR217_0.out)
                have n6_ := Aside0.mk (below_drew1 HB.out)
                clear HO_3
                clear HO_217000
                clear HL217_0
                clear BK211
                clear BK216
                clear HR217_0
                clear HB
                have HO_3 := n0_
                have HO_217000 := n1_
                have HL217_0 := n2_
                have BK211 := n3_
                have BK216 := n4_
                have HR217_0 := n5_
                have HB := n6_
                clear n0_ n1_ n2_ n3_ n4_ n5_ n6_
                have p218 : 0 ≤ (x5_1 : Int) := of_decide_eq_true (by first | (with_reducible assumption) | assumption)
                have q218 : x5_1 < (t213.length : Int) := of_decide_eq_true (by first | (with_reducible assumption) | assumption)
                obtain ⟨ad218, A218_0, c218_0, e218, hx218_0, hl218_0, hi218_0⟩ := at_L5 (Kd.N_reads' HO_3.out).2.2 x5_1 p218 q218
                obtain rfl : ad217 = ad218 := (by injection e218)
                obtain ⟨ce218, hce218, hMe218, hcc218⟩ := Kd.N_get HO_3.out [] x5_1 p218 (by first | exact q218 | exact of_decide_eq_true (by first | (with_reducible assumption) | assumption) | (have e_ := (Kd.N_reads' HO_3.out).1; omega))
                obtain ⟨ua218_0, uc218_0, rfl, ul218_0, ge218_0⟩ := Kd.FK_slice_open hMe218
                have hv218_0 := hcc218 0 _ rfl
                rw [Nat.add_zero, show ((Kd.slice 3 (Kd.int .i64))).sz = 1 from rfl, Nat.mul_one] at hv218_0
                replace hv218_0 := Option.some.inj (hv218_0.symm.trans hx218_0)
                injection hv218_0 with hva_ hvn_ hvc_
                rw [hva_] at ge218_0
                rw [hvc_] at ul218_0
                have HL218_0 := Aside0.mk (show Kd.V (Kd.int .i64) 3 _ w.heap.size _ _ (rd_L5 t213 x5_1) from Kd.V_mk ul218_0 ge218_0)
                clear hva_ hvn_ hvc_ ge218_0 ul218_0
                clear hcc218 hce218
                have HR218_0 := Aside0.mk hi218_0
                have HC218_0 := Aside0.mk hl218_0
                clear hi218_0 hl218_0
                replace p218 := eq_true p218
                replace q218 := eq_true q218
                refine start_ (n := 10) (S := fun w' => w'.cell? ⟨gb216, 0, none⟩ = some (u217000) ∧ w'.cell? ⟨gb216, 1, none⟩ = some (.slice none 0 0) ∧ w'.cell? ⟨gb216, 2, none⟩ = some (.int .i64 0) ∧ w'.cell? ⟨gb216, 3, none⟩ = some (.int .i64 0) ∧ w'.cell? (ad217.add (x5_1).toNat) = some (.slice A218_0 (rd_L5 t213 x5_1).length c218_0)) (ds := [7, 9]) #[false, false, false, false, false, false, false, false, false, false] (by kernel_rfl) rfl rfl ⟨(blk_cell BK216.out 0).trans rfl, (blk_cell BK216.out 1).trans rfl, (blk_cell BK216.out 2).trans rfl, (blk_cell BK216.out 3).trans rfl, hx218_0⟩ (fun hHeld => ?_); refine with_tabW chapmanref36_ChooseIn.tab9 chapmanref36_ChooseIn.bits9 (fun HT_ HW_ => ?_)
                generalize wr.drew = w15 at HO_3 HO_217000 HL217_0 BK211 BK216 HR217_0 HB HL218_0 HR218_0 hx218_0 hHeld ⊢
                refine pure_ (i := 0) (N := some 25) (v := ?_) (a' := ?_) #[true, false, false, false, false, false, false, false, false, false] rfl rfl (any_of HT_.out (by kernel_rfl)) (fun _ _ _ h => h) (Or.inl ⟨by rfl, ?_⟩) ?_ ?_
                rotate_left
                · intro w'
                  go_simp
                  with_reducible rfl
                rotate_left
                · simp only [Act.put, List.setIfInBounds_toArray, List.set_cons_zero, List.set_cons_succ, i64_w, i32_w]
                  rfl
                refine pure_ (i := 2) (N := some 27) (v := ?_) (a' := ?_) #[true, false, true, false, false, false, false, false, false, false] rfl rfl (any_of HT_.out (by kernel_rfl)) (fun _ _ _ h => h) (Or.inl ⟨by rfl, ?_⟩) ?_ ?_
                rotate_left
                · intro w'
                  go_simp
                  with_reducible rfl
                rotate_left
                · simp only [Act.put, List.setIfInBounds_toArray, List.set_cons_zero, List.set_cons_succ, i64_w, i32_w]
                  rfl
                refine pure_ (i := 3) (N := some 28) (v := ?_) (a' := ?_) #[true, false, true, true, false, false, false, false, false, false] rfl rfl (any_of HT_.out (by kernel_rfl)) (fun _ _ _ h => h) (Or.inl ⟨by rfl, ?_⟩) ?_ ?_
                rotate_left
                · intro w'
                  go_simp
                  with_reducible rfl
                rotate_left
                · simp only [Act.put, List.setIfInBounds_toArray, List.set_cons_zero, List.set_cons_succ, i64_w, i32_w]
                  rfl
                refine pure_ (i := 4) (N := some 29) (v := ?_) (a' := ?_) #[true, false, true, true, true, false, false, false, false, false] rfl rfl (any_of HT_.out (by kernel_rfl)) (fun _ _ _ h => h) (Or.inl ⟨by rfl, ?_⟩) ?_ ?_
                rotate_left
                · intro w'
                  go_simp
                  with_reducible rfl
                rotate_left
                · simp only [Act.put, List.setIfInBounds_toArray, List.set_cons_zero, List.set_cons_succ, i64_w, i32_w]
                  rfl
                refine take_ (i := 1) (N := some 26) (v := ?_) (a' := ?_) #[true, true, true, true, true, false, false, false, false, false] rfl rfl (take_ofW HT_.out HW_.out (by kernel_rfl)) (fun _ _ _ h => h) (Or.inl ⟨by rfl, ?_⟩) hHeld ?_ ?_
                rotate_left
                · rintro w' ⟨s0, s1, s2, s3, s4⟩
                  go_simp
                  with_reducible rfl
                rotate_left
                · simp only [Act.put, List.setIfInBounds_toArray, List.set_cons_zero, List.set_cons_succ, i64_w, i32_w]
                  rfl
                refine take_ (i := 5) (N := some 30) (v := ?_) (a' := ?_) #[true, true, true, true, true, true, false, false, false, false] rfl rfl (take_ofW HT_.out HW_.out (by kernel_rfl)) (fun _ _ _ h => h) (Or.inl ⟨by rfl, ?_⟩) hHeld ?_ ?_
                rotate_left
                · rintro w' ⟨s0, s1, s2, s3, s4⟩
                  go_simp
                  with_reducible rfl
                rotate_left
                · simp only [Act.put, List.setIfInBounds_toArray, List.set_cons_zero, List.set_cons_succ, i64_w, i32_w]
                  rfl
                refine one_ (i := 6) (N := some 31) #[true, true, true, true, true, true, true, false, false, false] rfl rfl (one_of HT_.out (by kernel_rfl)) (by decide) (fun K hK => ?_)
                refine value_ (w1 := ?_) (v := ?_) (by rfl) rfl ?_ ?_
                rotate_left 2
                · go_simp
                  constructor
                  · rfl
                  · rfl
                refine hK.out _ _ ⟨(blk_cell (blk_alloc BK216.out _) 0).trans rfl, (blk_cell (blk_alloc BK216.out _) 1).trans rfl, (blk_cell (blk_alloc BK216.out _) 2).trans rfl, (blk_cell (blk_alloc BK216.out _) 3).trans rfl, (World.cell?_alloc_lt _ _ _ (World.block_lt_of_cell? _ _ (hHeld.2.2.2.2))).trans (hHeld.2.2.2.2)⟩ (fun hHeld => ?_)
                clear hK K
                refine norm_ (a' := ?_) ?_ ?_
                rotate_left
                · show Act.put _ (some 31) _ = _
                  simp only [Act.put, List.setIfInBounds_toArray, List.set_cons_zero, List.set_cons_succ, i64_w, i32_w]
                  rfl
                refine last_ (i := 7) (N := some 32) #[true, true, true, true, true, true, true, true, false, false] rfl rfl (one_of HT_.out (by kernel_rfl)) (by decide) (fun K hK => ?_)
                refine Kd.N_append_step (Kd.slice 3 (Kd.int .i64)) (w0 := w) w.heap.size (by rfl) (.tmp 26) (.tmp 31) 24 26 (.slice none 0 0) 24 rfl Try.underlying24 info26 rfl (by decide) (by omega) u217000 x217000_1 (rd_L5 t213 x5_1) [.slice A218_0 (rd_L5 t213 x5_1).length c218_0] (fun k_ => (w.heap.size ≤ k_) ∧ some k_ ≠ (.slice (some ad217) t213.length co14 : Value).ownBlock ∧ k_ ≠ gb211 ∧ k_ ≠ gb216) (fun k_ => ((fun k_ => (w.heap.size ≤ k_) ∧ some k_ ≠ (.slice (some ad217) t213.length co14 : Value).ownBlock ∧ k_ ≠ gb211 ∧ k_ ≠ gb216)) k_ ∧ some k_ ≠ (u217000 : Value).ownBlock) rfl rfl ?aP (fun _ hk => hk) ?aF ?aO ?aB ?aS ?aL ?_
                (case aP => exact (Kd.FK_slice_mk (Kd.V_reads' (Kd.V_mono (ok' := (fun k_ => ((fun k_ => (w.heap.size ≤ k_) ∧ some k_ ≠ (.slice (some ad217) t213.length co14 : Value).ownBlock ∧ k_ ≠ gb211 ∧ k_ ≠ gb216)) k_ ∧ some k_ ≠ (u217000 : Value).ownBlock)) (HL218_0.out) (fun k_ hk => ⟨⟨hk.1.1, ⟨hk.2, ⟨hk.1.2.2.1, hk.1.2.2.2⟩⟩⟩, hk.1.2.1⟩))).2.1 (Kd.V_F (Kd.V_mono (ok' := (fun k_ => ((fun k_ => (w.heap.size ≤ k_) ∧ some k_ ≠ (.slice (some ad217) t213.length co14 : Value).ownBlock ∧ k_ ≠ gb211 ∧ k_ ≠ gb216)) k_ ∧ some k_ ≠ (u217000 : Value).ownBlock)) (HL218_0.out) (fun k_ hk => ⟨⟨hk.1.1, ⟨hk.2, ⟨hk.1.2.2.1, hk.1.2.2.2⟩⟩⟩, hk.1.2.1⟩)))))
                (case aB => exact (by repeat (first | (with_reducible first | exact HB.out | apply below_alloc | apply pw_below_drewN | apply below_drew1 | refine below_set ?_ GE211.out | refine below_set ?_ GE216.out) | exact HB.out)))
                (case aF => exact (fun k_ hk => ⟨(Nat.le_trans (below_size (by repeat (first | (with_reducible first | exact HB.out | apply below_alloc | apply pw_below_drewN | apply below_drew1 | refine below_set ?_ GE211.out | refine below_set ?_ GE216.out) | exact HB.out))) hk), Kd.fresh' (Kd.N_lt (by (with_reducible repeat (first | apply Kd.N_alloc | apply Kd.N_drewN | apply Kd.N_drew)); exact HO_3.out)) k_ hk, Kd.freshB (g := gb211) (o := .cells #[.slice none 0 0, .slice none 0 0, .int .i64 0, .int .i64 0] 36 (0, 0)) (by (with_reducible repeat (first | refine blk_drewN ?_ _ | refine blk_drew ?_ | refine blk_alloc ?_ _)); exact BK211.out) k_ hk, Kd.freshB (g := gb216) (o := .cells #[u217000, .slice none 0 0, .int .i64 0, .int .i64 0] 36 (0, 0)) (by (with_reducible repeat (first | refine blk_drewN ?_ _ | refine blk_drew ?_ | refine blk_alloc ?_ _)); exact BK216.out) k_ hk⟩))
                (case aO => exact (by (with_reducible repeat (first | apply Kd.N_alloc | apply Kd.N_drewN | apply Kd.N_drew)); exact HO_217000.out))
                (case aS => exact (below_size (by repeat (first | (with_reducible first | exact HB.out | apply below_alloc | apply pw_below_drewN | apply below_drew1 | refine below_set ?_ GE211.out | refine below_set ?_ GE216.out) | exact HB.out))))
                (case aL => have := LMc13.out; omega)
                intro v220 w16 ho hb hg hat
                rw [← Ny219.out] at ho
                have n0_ := Aside0.mk (Kd.N_afterv (ok := (fun k_ => (w.heap.size ≤ k_) ∧ k_ ≠ gb211 ∧ k_ ≠ gb216)) (by (with_reducible repeat (first | apply Kd.N_alloc | apply Kd.N_drewN | apply Kd.N_drew)); exact Kd.N_mono HO_3.out (fun _ hk => ⟨⟨hk.1, ⟨hk.2.2.1, hk.2.2.2⟩⟩, hk.2.1⟩)) hg hat)
                have n1_ := Aside0.mk (blk_grown (g := gb211) (o := .cells #[.slice none 0 0, .slice none 0 0, .int .i64 0, .int .i64 0] 36 (0, 0)) (by (with_reducible repeat (first | refine blk_drewN ?_ _ | refine blk_drew ?_ | refine blk_alloc ?_ _)); exact BK211.out) hg (Kd.N_ne HO_217000.out BK211.out (by decide)))
                have n2_ := Aside0.mk (blk_grown (g := gb216) (o := .cells #[u217000, .slice none 0 0, .int .i64 0, .int .i64 0] 36 (0, 0)) (by (with_reducible repeat (first | refine blk_drewN ?_ _ | refine blk_drew ?_ | refine blk_alloc ?_ _)); exact BK216.out) hg (Kd.N_ne HO_217000.out BK216.out (by decide)))
                have n3_ := Aside0.mk (Kd.V_afterv (ok := (fun k_ => (w.heap.size ≤ k_) ∧ some k_ ≠ (.slice (some ad217) t213.length co14 : Value).ownBlock ∧ k_ ≠ gb211 ∧ k_ ≠ gb216)) (by (with_reducible repeat (first | apply Kd.V_alloc | apply Kd.V_drewN | apply Kd.V_drew)); exact Kd.V_mono HL217_0.out (fun _ hk => ⟨⟨hk.1.1, ⟨hk.2, ⟨hk.1.2.2.1, hk.1.2.2.2⟩⟩⟩, hk.1.2.1⟩)) hg hat)
                have n4_ := Aside0.mk (Kd.V_afterv (ok := (fun k_ => (w.heap.size ≤ k_) ∧ some k_ ≠ (.slice (some ad217) t213.length co14 : Value).ownBlock ∧ k_ ≠ gb211 ∧ k_ ≠ gb216)) (by (with_reducible repeat (first | apply Kd.V_alloc | apply Kd.V_drewN | apply Kd.V_drew)); exact Kd.V_mono HL218_0.out (fun _ hk => ⟨⟨hk.1.1, ⟨hk.2, ⟨hk.1.2.2.1, hk.1.2.2.2⟩⟩⟩, hk.1.2.1⟩)) hg hat)
                have n5_ := Aside0.mk (hb)
                have n6_ := Aside0.mk (ho)
                clear HO_3
                clear BK211
                clear BK216
                clear HL217_0
                clear HL218_0
                clear HB
                clear HO_217000
                have HO_3 := n0_
                have BK211 := n1_
                have BK216 := n2_
                have HL217_0 := n3_
                have HL218_0 := n4_
                have HB := n5_
                have HO221 := n6_
                clear n0_ n1_ n2_ n3_ n4_ n5_ n6_
                clear ho hb hg hat
                obtain ⟨Ao17, co17, eo17⟩ := Kd.N_slice HO221.out
                (first | subst eo17 | (injection eo17 with f1_ f2_ f3_; have f4_ := f1_.symm; have f5_ := f3_.symm; clear f1_ f2_ f3_; subst f4_; subst f5_))
                refine hK.out _ _ ?_
                clear hK K
                refine norm_ (a' := ?_) ?_ ?_
                rotate_left
                · show Act.put _ (some 32) _ = _
                  simp only [Act.put, List.setIfInBounds_toArray, List.set_cons_zero, List.set_cons_succ, i64_w, i32_w]
                  rfl
                refine pure_ (i := 8) (N := some 33) (v := ?_) (a' := ?_) #[true, true, true, true, true, true, true, true, true, false] rfl rfl (any_of HT_.out (by kernel_rfl)) (fun _ _ _ h => h) (Or.inl ⟨by rfl, ?_⟩) ?_ ?_
                rotate_left
                · intro w'
                  go_simp
                  with_reducible rfl
                rotate_left
                · simp only [Act.put, List.setIfInBounds_toArray, List.set_cons_zero, List.set_cons_succ, i64_w, i32_w]
                  rfl
                refine last_ (i := 9) (N := none) #[true, true, true, true, true, true, true, true, true, true] rfl rfl (one_of HT_.out (by kernel_rfl)) (by decide) (fun K hK => ?_)
                have hs18 : w16.cell? ⟨gb216, 0, none⟩ = some (u217000) := (blk_cell BK216.out 0).trans rfl
                have hfs18 := blk_frozen BK216.out 0
                have hns18_0 := NB211_216.out
                have hms18_0 := NB216_211.out
                refine skip_ (w1 := ?_) (by rfl) rfl ?_ ?_
                rotate_left
                · go_simp
                  rfl
                refine hK.out _ _ ?_
                clear hK K
                refine done_ (done_of HT_.out (by kernel_rfl)) ?_
                try go_wp2
                go_roundg k1
                case measure => have := HK1.out; omega
                case rel => exact ⟨(wrap64 (x5_1 + 1)), (y219), (.slice Ao17 y219.length co17), (by first | rfl | (simp; done) | (simp [*]; done)), H', ⟨by have := HK1.out; omega⟩, ⟨by (with_reducible repeat (first | apply Kd.N_alloc | apply Kd.N_drewN | apply Kd.N_drew)); exact Kd.N_mono (Kd.N_far (p := ⟨gb216, 0, none⟩) (Kd.N_mono HO_3.out (fun k_ hk => (⟨hk, hk.1.2.2⟩ : _ ∧ k_ ≠ gb216))) (fun _ hk => hk.2) (.slice Ao17 y219.length co17)) (fun _ hk => ⟨hk.1.1.1, ⟨hk.1.2, ⟨hk.1.1.2.1, hk.1.1.2.2⟩⟩⟩)⟩, ⟨by (with_reducible repeat (first | apply Kd.N_alloc | apply Kd.N_drewN | apply Kd.N_drew)); exact Kd.N_mono (Kd.N_far (p := ⟨gb216, 0, none⟩) (Kd.N_mono HO221.out (fun k_ hk => (⟨hk, hk.2.2.2⟩ : _ ∧ k_ ≠ gb216))) (fun _ hk => hk.2) (.slice Ao17 y219.length co17)) (fun _ hk => ⟨hk.1.1, ⟨hk.1.2.1, ⟨hk.1.2.2.1, hk.1.2.2.2⟩⟩⟩)⟩, ⟨by (with_reducible repeat (first | refine blk_drewN ?_ _ | refine blk_drew ?_ | refine blk_alloc ?_ _)); refine blk_far ?_ NB211_216.out _; (with_reducible repeat (first | refine blk_drewN ?_ _ | refine blk_drew ?_ | refine blk_alloc ?_ _)); exact BK211.out⟩, ⟨by (with_reducible repeat (first | refine blk_drewN ?_ _ | refine blk_drew ?_ | refine blk_alloc ?_ _)); refine blk_put (cs := #[u217000, .slice none 0 0, .int .i64 0, .int .i64 0]) ?_ 0 _ rfl; (with_reducible repeat (first | refine blk_drewN ?_ _ | refine blk_drew ?_ | refine blk_alloc ?_ _)); exact BK216.out⟩, ⟨by repeat (first | (with_reducible first | exact HB.out | apply below_alloc | apply pw_below_drewN | apply below_drew1 | refine below_set ?_ GE211.out | refine below_set ?_ GE216.out) | exact HB.out)⟩⟩
              · rw [if_neg c13] at H
                exact absurd H (by simp)
            · rw [if_neg c12] at H
              have c12b0 : decide (1 < ((rd_L5 t213 x5_1).length : Int)) = false := decide_eq_false c12
              have c12b1 : decide (1 < (rd_L5 t213 x5_1).length) = false := decide_eq_false (by omega)
              clear c12
              have H' := Aside0.mk H
              clear H
              obtain ⟨Ao19, co19, eo19⟩ := Kd.N_slice HO_3.out
              subst eo19
              have p217 : 0 ≤ (x5_1 : Int) := of_decide_eq_true (by first | (with_reducible assumption) | assumption)
              have q217 : x5_1 < (t213.length : Int) := of_decide_eq_true (by first | (with_reducible assumption) | assumption)
              obtain ⟨ad217, A217_0, c217_0, e217, hx217_0, hl217_0, hi217_0⟩ := at_L5 (Kd.N_reads' HO_3.out).2.2 x5_1 p217 q217
              cases e217
              obtain ⟨ce217, hce217, hMe217, hcc217⟩ := Kd.N_get HO_3.out [] x5_1 p217 (by first | exact q217 | exact of_decide_eq_true (by first | (with_reducible assumption) | assumption) | (have e_ := (Kd.N_reads' HO_3.out).1; omega))
              obtain ⟨ua217_0, uc217_0, rfl, ul217_0, ge217_0⟩ := Kd.FK_slice_open hMe217
              have hv217_0 := hcc217 0 _ rfl
              rw [Nat.add_zero, show ((Kd.slice 3 (Kd.int .i64))).sz = 1 from rfl, Nat.mul_one] at hv217_0
              replace hv217_0 := Option.some.inj (hv217_0.symm.trans hx217_0)
              injection hv217_0 with hva_ hvn_ hvc_
              rw [hva_] at ge217_0
              rw [hvc_] at ul217_0
              have HL217_0 := Aside0.mk (show Kd.V (Kd.int .i64) 3 _ w.heap.size _ _ (rd_L5 t213 x5_1) from Kd.V_mk ul217_0 ge217_0)
              clear hva_ hvn_ hvc_ ge217_0 ul217_0
              clear hcc217 hce217
              have HR217_0 := Aside0.mk hi217_0
              have HC217_0 := Aside0.mk hl217_0
              clear hi217_0 hl217_0
              replace p217 := eq_true p217
              replace q217 := eq_true q217
              go_wp2
              go_roundg k1
              case measure => have := HK1.out; omega
              case rel => exact ⟨(wrap64 (x5_1 + 1)), (x217000_1), (u217000), (by first | rfl | (simp; done) | (simp [*]; done)), H', ⟨by have := HK1.out; omega⟩, ⟨by (with_reducible repeat (first | apply Kd.N_alloc | apply Kd.N_drewN | apply Kd.N_drew)); exact HO_3.out⟩, ⟨by (with_reducible repeat (first | apply Kd.N_alloc | apply Kd.N_drewN | apply Kd.N_drew)); exact HO_217000.out⟩, ⟨by (with_reducible repeat (first | refine blk_drewN ?_ _ | refine blk_drew ?_ | refine blk_alloc ?_ _)); exact BK211.out⟩, ⟨by (with_reducible repeat (first | refine blk_drewN ?_ _ | refine blk_drew ?_ | refine blk_alloc ?_ _)); exact BK216.out⟩, ⟨by repeat (first | (with_reducible first | exact HB.out | apply below_alloc | apply pw_below_drewN | apply below_drew1 | refine below_set ?_ GE211.out | refine below_set ?_ GE216.out) | exact HB.out)⟩⟩
          · rw [if_neg c11] at H
            exact absurd H (by simp)
        · rw [if_neg c10] at H
          have c10b0 : decide (x5_1 < (t213.length : Int)) = false := decide_eq_false c10
          clear c10
          simp only [Option.some.injEq, Prod.mk.injEq] at H
          obtain ⟨rfl, rfl, rfl, rfl⟩ := H
          obtain ⟨Ao20, co20, eo20⟩ := Kd.N_slice HO_3.out
          subst eo20
          have hnb21 := NB216_211.out
          have hnc21 := NB211_216.out
          have hcz22_0 : wr.cell? ⟨gb216, 0, none⟩ = some (u217000) := (blk_cell BK216.out 0).trans rfl
          have hcz22_1 : wr.cell? ⟨gb216, 1, none⟩ = some (.slice none 0 0) := (blk_cell BK216.out 1).trans rfl
          have hcz22_2 : wr.cell? ⟨gb216, 2, none⟩ = some (.int .i64 0) := (blk_cell BK216.out 2).trans rfl
          have hcz22_3 : wr.cell? ⟨gb216, 3, none⟩ = some (.int .i64 0) := (blk_cell BK216.out 3).trans rfl
          have hfz22_0 := blk_frozen BK216.out 0
          have hfz22_1 := blk_frozen BK216.out 1
          have hfz22_2 := blk_frozen BK216.out 2
          have hfz22_3 := blk_frozen BK216.out 3
          obtain ⟨Ao23, co23, eo23⟩ := Kd.N_slice HO_217000.out
          subst eo23
          have hcz24_0 : wr.cell? ⟨gb211, 0, none⟩ = some (.slice none 0 0) := (blk_cell BK211.out 0).trans rfl
          have hcz24_1 : wr.cell? ⟨gb211, 1, none⟩ = some (.slice none 0 0) := (blk_cell BK211.out 1).trans rfl
          have hcz24_2 : wr.cell? ⟨gb211, 2, none⟩ = some (.int .i64 0) := (blk_cell BK211.out 2).trans rfl
          have hcz24_3 : wr.cell? ⟨gb211, 3, none⟩ = some (.int .i64 0) := (blk_cell BK211.out 3).trans rfl
          have hfz24_0 := blk_frozen BK211.out 0
          have hfz24_1 := blk_frozen BK211.out 1
          have hfz24_2 := blk_frozen BK211.out 2
          have hfz24_3 := blk_frozen BK211.out 3
          go_wp2
          refine bodyPost_ret (results_cell_row rfl _ _ gb211 36 #[.slice Ao23 x217000_1.length co23, .slice none 0 0, .int .i64 0, .int .i64 0] (0, 0) _ rfl (by (with_reducible repeat (first | refine blk_drewN ?_ _ | refine blk_drew ?_ | refine blk_alloc ?_ _)); refine blk_put (cs := #[.slice Ao23 x217000_1.length co23, .slice none 0 0, .int .i64 0, .int .i64 0]) ?_ 3 _ rfl; (with_reducible repeat (first | refine blk_drewN ?_ _ | refine blk_drew ?_ | refine blk_alloc ?_ _)); refine blk_put (cs := #[.slice Ao23 x217000_1.length co23, .slice none 0 0, .int .i64 0, .int .i64 0]) ?_ 2 _ rfl; (with_reducible repeat (first | refine blk_drewN ?_ _ | refine blk_drew ?_ | refine blk_alloc ?_ _)); refine blk_put (cs := #[.slice Ao23 x217000_1.length co23, .slice none 0 0, .int .i64 0, .int .i64 0]) ?_ 1 _ rfl; (with_reducible repeat (first | refine blk_drewN ?_ _ | refine blk_drew ?_ | refine blk_alloc ?_ _)); refine blk_put (cs := #[.slice none 0 0, .slice none 0 0, .int .i64 0, .int .i64 0]) ?_ 0 _ rfl; (with_reducible repeat (first | refine blk_drewN ?_ _ | refine blk_drew ?_ | refine blk_alloc ?_ _)); exact BK211.out) Try.underlying36 rfl (by kernel_rfl)) rfl ?_
          exact ⟨_, _, by first | rfl | (simp [errW_none, errW_some] <;> rfl) | (simp [*, errW_none, errW_some] <;> rfl), by (with_reducible repeat (first | apply Kd.N_alloc | apply Kd.N_drewN | apply Kd.N_drew)); exact Kd.N_mono (Kd.N_far (p := ⟨gb211, 3, none⟩) (Kd.N_far (p := ⟨gb211, 2, none⟩) (Kd.N_far (p := ⟨gb211, 1, none⟩) (Kd.N_far (p := ⟨gb211, 0, none⟩) (Kd.N_mono HO_217000.out (fun k_ hk => (⟨hk, hk.2.2.1⟩ : _ ∧ k_ ≠ gb211))) (fun _ hk => hk.2) (.slice Ao23 x217000_1.length co23)) (fun _ hk => hk.2) (.slice none 0 0)) (fun _ hk => hk.2) (.int .i64 0)) (fun _ hk => hk.2) (.int .i64 0)) (fun _ hk => ⟨hk.1.1, (by simp [Value.ownBlock])⟩), by first | exact Kd.R_nil _ _ _ _ _ | exact Kd.N_nil _ _ _ _ _ | exact Kd.V_nil _ _ _ _ _ | exact Kd.Q_nil _ _ _ _ _ | exact Kd.S_nil _ _ _ _ _, by repeat (first | (with_reducible first | exact HB.out | apply below_alloc | apply pw_below_drewN | apply below_drew1 | refine below_set ?_ GE211.out | refine below_set ?_ GE216.out) | exact HB.out)⟩
  · replace c3 := Bool.eq_false_iff.mpr c3
    subst c3
    have H1 : (some (([] : List (List Int)), ([] : List (S43)), 0, 1)) = some (r1, r2, r3, r4) := by rw [if_neg (show ¬ (false = true) by decide)] at H; exact H
    clear H
    have H := H1
    clear H1
    simp only [Option.some.injEq, Prod.mk.injEq] at H
    obtain ⟨rfl, rfl, rfl, rfl⟩ := H
    go_enter Try.func16, Try.ntmps16
    go_wp2_with (first | ((with_reducible refine gate_dst (N := 2) rfl ?_); refine box_event ?hg (N := 2) ?hd (cs := #[.slice none 0 0, .slice none 0 0, .int .i64 0, .int .i64 0]) (t := 36) ?hr ?_; (case hd => rfl); (case hg => rfl); (case hr => first | (go_simp; done) | (go_simp; rfl)); intro gb211 hg w25 hbox hb; have n0_ := Aside0.mk (below_step (by repeat (first | (with_reducible first | exact HB.out | apply below_alloc | apply pw_below_drewN | apply below_drew1) | exact HB.out)) hb); have n1_ := Aside0.mk (hbox); have n2_ := Aside0.mk ((by rw [hg]; exact (below_size (by repeat (first | (with_reducible first | exact HB.out | apply below_alloc | apply pw_below_drewN | apply below_drew1) | exact HB.out))) : w.heap.size ≤ gb211)); have n3_ := Aside0.mk ((by rw [hg]; exact (below_size (by repeat (first | (with_reducible first | exact HB.out | apply below_alloc | apply pw_below_drewN | apply below_drew1) | exact HB.out))) : w.heap.size ≤ gb211)); clear HB; have HB := n0_; have BK211 := n1_; have GW211 := n2_; have GE211 := n3_; clear n0_ n1_ n2_ n3_; clear hb hbox hg) | ((with_reducible refine gate_callee (f := 13) rfl ?_); refine goesL_ (some 7) rfl rfl Try.func13 (by kernel_rfl) rfl #[.slice A0 l0.length c0] rfl (by (try simp only [List.map_toArray, List.map_cons, List.map_nil]); first | done | rfl | (simp only [List.length_drop, List.length_take]; rfl)) ?_; (with_reducible refine (chapmanref36_Valid.calls k _ _ l0 false _ ?side1 ?side2 A2.out).mono ?_); (case side1 => repeat (first | exact (Kd.C_below HR0.out HB.out) | (with_reducible refine Kd.C_alloc ?_ _) | (with_reducible refine Kd.C_drewN ?_ _) | (with_reducible refine Kd.C_drew ?_))); (case side2 => exact HC0.out); rintro e w' ⟨rfl, ⟨nd, rfl⟩⟩; refine ⟨_, rfl, ?_⟩; (try (rw [drewN_self w25]; generalize hq_ : World.drewN w25 _ = w25; have n0_ : Aside0 (w25.heap[gb211]? = some (.cells #[.slice none 0 0, .slice none 0 0, .int .i64 0, .int .i64 0] 36 (0, 0))) := ⟨by rw [← hq_]; exact (by (with_reducible repeat (first | refine blk_drewN ?_ _ | refine blk_drew ?_ | refine blk_alloc ?_ _)); exact BK211.out)⟩; have n1_ : Aside0 (Below w.heap.size w w25) := ⟨by rw [← hq_]; exact (by repeat (first | (with_reducible first | exact HB.out | apply below_alloc | apply pw_below_drewN | apply below_drew1 | refine below_set ?_ GE211.out) | exact HB.out))⟩; clear BK211 HB hq_; have BK211 := n0_; have HB := n1_; clear n0_ n1_)); have hcz26_0 : w25.cell? ⟨gb211, 0, none⟩ = some (.slice none 0 0) := (blk_cell BK211.out 0).trans rfl; have hcz26_1 : w25.cell? ⟨gb211, 1, none⟩ = some (.slice none 0 0) := (blk_cell BK211.out 1).trans rfl; have hcz26_2 : w25.cell? ⟨gb211, 2, none⟩ = some (.int .i64 0) := (blk_cell BK211.out 2).trans rfl; have hcz26_3 : w25.cell? ⟨gb211, 3, none⟩ = some (.int .i64 0) := (blk_cell BK211.out 3).trans rfl; have hfz26_0 := blk_frozen BK211.out 0; have hfz26_1 := blk_frozen BK211.out 1; have hfz26_2 := blk_frozen BK211.out 2; have hfz26_3 := blk_frozen BK211.out 3))
    refine bodyPost_ret (results_cell_row rfl _ _ gb211 36 #[.slice none 0 0, .slice none 0 0, .int .i64 0, .int .i64 1] (0, 0) _ rfl (by (with_reducible repeat (first | refine blk_drewN ?_ _ | refine blk_drew ?_ | refine blk_alloc ?_ _)); refine blk_put (cs := #[.slice none 0 0, .slice none 0 0, .int .i64 0, .int .i64 0]) ?_ 3 _ rfl; (with_reducible repeat (first | refine blk_drewN ?_ _ | refine blk_drew ?_ | refine blk_alloc ?_ _)); refine blk_put (cs := #[.slice none 0 0, .slice none 0 0, .int .i64 0, .int .i64 0]) ?_ 2 _ rfl; (with_reducible repeat (first | refine blk_drewN ?_ _ | refine blk_drew ?_ | refine blk_alloc ?_ _)); refine blk_put (cs := #[.slice none 0 0, .slice none 0 0, .int .i64 0, .int .i64 0]) ?_ 1 _ rfl; (with_reducible repeat (first | refine blk_drewN ?_ _ | refine blk_drew ?_ | refine blk_alloc ?_ _)); refine blk_put (cs := #[.slice none 0 0, .slice none 0 0, .int .i64 0, .int .i64 0]) ?_ 0 _ rfl; (with_reducible repeat (first | refine blk_drewN ?_ _ | refine blk_drew ?_ | refine blk_alloc ?_ _)); exact BK211.out) Try.underlying36 rfl (by kernel_rfl)) rfl ?_
    exact ⟨_, _, by first | rfl | (simp [errW_none, errW_some] <;> rfl) | (simp [*, errW_none, errW_some] <;> rfl), by first | exact Kd.R_nil _ _ _ _ _ | exact Kd.N_nil _ _ _ _ _ | exact Kd.V_nil _ _ _ _ _ | exact Kd.Q_nil _ _ _ _ _ | exact Kd.S_nil _ _ _ _ _, by first | exact Kd.R_nil _ _ _ _ _ | exact Kd.N_nil _ _ _ _ _ | exact Kd.V_nil _ _ _ _ _ | exact Kd.Q_nil _ _ _ _ _ | exact Kd.S_nil _ _ _ _ _, by repeat (first | (with_reducible first | exact HB.out | apply below_alloc | apply pw_below_drewN | apply below_drew1 | refine below_set ?_ GE211.out) | exact HB.out)⟩
def chapmanref36_ReadIn.l0 : Nat → List (S43) → Int → Int → Int → Option ((List (List Int)) × (List (S43)) × Int × Int)
  | 0, _, _, _, _ => none
  | k + 1, x0, x4, x225002, x225003 => if x4 < (x0.length : Int) then (if 0 ≤ x4 then (chapmanref36_ReadIn.l0 k x0 (wrap64 (x4 + 1)) (wrap64 (x225002 + ((rd_T43 x0 x4).f1))) x225003) else (none)) else (some (([] : List (List Int)), ([] : List (S43)), x225002, x225003))
def chapmanref36_ReadIn.f (k : Nat) (l0 : List (S43)) : Option ((List (List Int)) × (List (S43)) × Int × Int) := (chapmanref36_Valid.f k l0).bind fun t223 => (if t223 = true then (chapmanref36_ReadIn.l0 k l0 0 (wrap64 (4096 * (l0.length : Int))) 0) else (some (([] : List (List Int)), ([] : List (S43)), 0, 1)))
def chapmanref36_ReadIn.T7 : Bool × List (List Nat × List Nat) := (true, [([], []), ([0], [0]), ([], []), ([], []), ([2, 3], [2, 3]), ([4], [4]), ([5], [5]), ([1, 6], [1, 6]), ([0, 1, 2, 3, 4, 5, 6, 7], []), ([8, 7, 0, 1, 2, 3, 4, 5, 6, 7], [7, 8])])
def chapmanref36_ReadIn.B7 : List Nat := [0, 1, 0, 0, 12, 28, 60, 127, 255, 511]
theorem chapmanref36_ReadIn.tab7 : rtab .any (opsOf Try.f18 7) = chapmanref36_ReadIn.T7 := by kernel_rfl
theorem chapmanref36_ReadIn.bits7 : waitsOk chapmanref36_ReadIn.T7.2 chapmanref36_ReadIn.B7 = true := by kernel_rfl
set_option maxHeartbeats 8000000 in
set_option maxRecDepth 100000 in
theorem chapmanref36_ReadIn.calls (k : Nat) (A0 : Option Addr) (c0 : Nat) (l0 : List (S43)) (r1 : List (List Int)) (r2 : List (S43)) (r3 : Int) (r4 : Int) (w : World) (hr0 : Kd.C k43 w A0 l0.length l0) (hc0 : l0.length ≤ c0) (h : chapmanref36_ReadIn.f k l0 = some (r1, r2, r3, r4)) :
    Calls Try.prog 18 #[.slice A0 l0.length c0] w fun e w' => ∃ v0_ v1_ : Value, e = .returned (.agg #[v0_, v1_, .int .i64 r3, .int .i64 r4]) ∧ Kd.R (Kd.slice 3 (Kd.int .i64)) 26 w' w.heap.size (fun _ => True) v0_ r1 ∧ Kd.R k43 43 w' w.heap.size (fun _ => True) v1_ r2 ∧ Below w.heap.size w w' := by
  have hu36 := Try.underlying36
  have HR0 := Aside0.mk hr0
  have HC0 := Aside0.mk hc0
  clear hr0 hc0
  have HB := Aside0.mk (Below.refl w.heap.size w)
  have H : ((chapmanref36_Valid.f k l0).bind fun t223 => (if t223 = true then (chapmanref36_ReadIn.l0 k l0 0 (wrap64 (4096 * (l0.length : Int))) 0) else (some (([] : List (List Int)), ([] : List (S43)), 0, 1)))) = some (r1, r2, r3, r4) := h
  clear h
  replace H := Option.bind_eq_some_iff.mp H
  obtain ⟨t223, A20, H⟩ := H
  replace H : (if t223 = true then (chapmanref36_ReadIn.l0 k l0 0 (wrap64 (4096 * (l0.length : Int))) 0) else (some (([] : List (List Int)), ([] : List (S43)), 0, 1))) = some (r1, r2, r3, r4) := H
  have A2 := Aside0.mk A20
  clear A20
  by_cases c3 : t223 = true
  · subst c3
    have H1 : (chapmanref36_ReadIn.l0 k l0 0 (wrap64 (4096 * (l0.length : Int))) 0) = some (r1, r2, r3, r4) := by rw [if_pos rfl] at H; exact H
    clear H
    have H := H1
    clear H1
    have H' := Aside0.mk H
    clear H
    go_enter Try.func18, Try.ntmps18
    go_wp2_with (first | ((with_reducible refine gate_dst (N := 2) rfl ?_); refine box_event ?hg (N := 2) ?hd (cs := #[.slice none 0 0, .slice none 0 0, .int .i64 0, .int .i64 0]) (t := 36) ?hr ?_; (case hd => rfl); (case hg => rfl); (case hr => first | (go_simp; done) | (go_simp; rfl)); intro gb222 hg w4 hbox hb; have n0_ := Aside0.mk (below_step (by repeat (first | (with_reducible first | exact HB.out | apply below_alloc | apply pw_below_drewN | apply below_drew1) | exact HB.out)) hb); have n1_ := Aside0.mk (hbox); have n2_ := Aside0.mk ((by rw [hg]; exact (below_size (by repeat (first | (with_reducible first | exact HB.out | apply below_alloc | apply pw_below_drewN | apply below_drew1) | exact HB.out))) : w.heap.size ≤ gb222)); have n3_ := Aside0.mk ((by rw [hg]; exact (below_size (by repeat (first | (with_reducible first | exact HB.out | apply below_alloc | apply pw_below_drewN | apply below_drew1) | exact HB.out))) : w.heap.size ≤ gb222)); clear HB; have HB := n0_; have BK222 := n1_; have GW222 := n2_; have GE222 := n3_; clear n0_ n1_ n2_ n3_; clear hb hbox hg) | ((with_reducible refine gate_callee (f := 13) rfl ?_); refine goesL_ (some 6) rfl rfl Try.func13 (by kernel_rfl) rfl #[.slice A0 l0.length c0] rfl (by (try simp only [List.map_toArray, List.map_cons, List.map_nil]); first | done | rfl | (simp only [List.length_drop, List.length_take]; rfl)) ?_; (with_reducible refine (chapmanref36_Valid.calls k _ _ l0 true _ ?side1 ?side2 A2.out).mono ?_); (case side1 => repeat (first | exact (Kd.C_below HR0.out HB.out) | (with_reducible refine Kd.C_alloc ?_ _) | (with_reducible refine Kd.C_drewN ?_ _) | (with_reducible refine Kd.C_drew ?_))); (case side2 => exact HC0.out); rintro e w' ⟨rfl, ⟨nd, rfl⟩⟩; refine ⟨_, rfl, ?_⟩; (try (rw [drewN_self w4]; generalize hq_ : World.drewN w4 _ = w4; have n0_ : Aside0 (w4.heap[gb222]? = some (.cells #[.slice none 0 0, .slice none 0 0, .int .i64 0, .int .i64 0] 36 (0, 0))) := ⟨by rw [← hq_]; exact (by (with_reducible repeat (first | refine blk_drewN ?_ _ | refine blk_drew ?_ | refine blk_alloc ?_ _)); exact BK222.out)⟩; have n1_ : Aside0 (Below w.heap.size w w4) := ⟨by rw [← hq_]; exact (by repeat (first | (with_reducible first | exact HB.out | apply below_alloc | apply pw_below_drewN | apply below_drew1 | refine below_set ?_ GE222.out) | exact HB.out))⟩; clear BK222 HB hq_; have BK222 := n0_; have HB := n1_; clear n0_ n1_))) | ((with_reducible refine gate_dst (N := 3) rfl ?_); refine box_event ?hg (N := 3) ?hd (cs := #[.slice none 0 0, .slice none 0 0, .int .i64 0, .int .i64 0]) (t := 36) ?hr ?_; (case hd => rfl); (case hg => rfl); (case hr => first | (go_simp; done) | (go_simp; rfl)); intro gb224 hg w5 hbox hb; have n0_ := Aside0.mk (blk_below (g := gb222) (o := .cells #[.slice none 0 0, .slice none 0 0, .int .i64 0, .int .i64 0] 36 (0, 0)) (by (with_reducible repeat (first | refine blk_drewN ?_ _ | refine blk_drew ?_ | refine blk_alloc ?_ _)); exact BK222.out) hb); have n1_ := Aside0.mk (below_step (by repeat (first | (with_reducible first | exact HB.out | apply below_alloc | apply pw_below_drewN | apply below_drew1 | refine below_set ?_ GE222.out) | exact HB.out)) hb); have n2_ := Aside0.mk (hbox); have n3_ := Aside0.mk ((by rw [hg]; exact (below_size (by repeat (first | (with_reducible first | exact HB.out | apply below_alloc | apply pw_below_drewN | apply below_drew1 | refine below_set ?_ GE222.out) | exact HB.out))) : w.heap.size ≤ gb224)); have n4_ := Aside0.mk ((by rw [hg]; exact (below_size (by repeat (first | (with_reducible first | exact HB.out | apply below_alloc | apply pw_below_drewN | apply below_drew1 | refine below_set ?_ GE222.out) | exact HB.out))) : w.heap.size ≤ gb224)); have n5_ := Aside0.mk ((by rw [hg]; exact Nat.ne_of_lt (blk_lt (g := gb222) (o := .cells #[.slice none 0 0, .slice none 0 0, .int .i64 0, .int .i64 0] 36 (0, 0)) (by (with_reducible repeat (first | refine blk_drewN ?_ _ | refine blk_drew ?_ | refine blk_alloc ?_ _)); exact BK222.out)) : gb222 ≠ gb224)); have n6_ := Aside0.mk ((by rw [hg]; exact Nat.ne_of_gt (blk_lt (g := gb222) (o := .cells #[.slice none 0 0, .slice none 0 0, .int .i64 0, .int .i64 0] 36 (0, 0)) (by (with_reducible repeat (first | refine blk_drewN ?_ _ | refine blk_drew ?_ | refine blk_alloc ?_ _)); exact BK222.out)) : gb224 ≠ gb222)); clear BK222; clear HB; have BK222 := n0_; have HB := n1_; have BK224 := n2_; have GW224 := n3_; have GE224 := n4_; have NB222_224 := n5_; have NB224_222 := n6_; clear n0_ n1_ n2_ n3_ n4_ n5_ n6_; clear hb hbox hg; have hnb6 := NB224_222.out; have hnc6 := NB222_224.out; have hcz7_0 : w5.cell? ⟨gb224, 0, none⟩ = some (.slice none 0 0) := (blk_cell BK224.out 0).trans rfl; have hcz7_1 : w5.cell? ⟨gb224, 1, none⟩ = some (.slice none 0 0) := (blk_cell BK224.out 1).trans rfl; have hcz7_2 : w5.cell? ⟨gb224, 2, none⟩ = some (.int .i64 0) := (blk_cell BK224.out 2).trans rfl; have hcz7_3 : w5.cell? ⟨gb224, 3, none⟩ = some (.int .i64 0) := (blk_cell BK224.out 3).trans rfl; have hfz7_0 := blk_frozen BK224.out 0; have hfz7_1 := blk_frozen BK224.out 1; have hfz7_2 := blk_frozen BK224.out 2; have hfz7_3 := blk_frozen BK224.out 3))
    go_loopg [4] k (fun kq v4 w' => ∃ (x4_1 : Int) (x225002_1 : Int), v4 = .int .i64 x4_1 ∧ Aside0 (chapmanref36_ReadIn.l0 kq l0 x4_1 x225002_1 0 = some (r1, r2, r3, r4)) ∧ Aside0 (kq ≤ k) ∧ Aside0 (w'.heap[gb222]? = some (.cells #[(.slice none 0 0), (.slice none 0 0), .int .i64 0, .int .i64 0] 36 (0, 0))) ∧ Aside0 (w'.heap[gb224]? = some (.cells #[(.slice none 0 0), (.slice none 0 0), .int .i64 x225002_1, .int .i64 0] 36 (0, 0))) ∧ Aside0 (Below w.heap.size w w'))
    case atStart => exact ⟨(0), (wrap64 (4096 * (l0.length : Int))), (by first | rfl | (simp; done) | (simp [*]; done)), H', ⟨Nat.le_refl _⟩, ⟨by (with_reducible repeat (first | refine blk_drewN ?_ _ | refine blk_drew ?_ | refine blk_alloc ?_ _)); refine blk_far ?_ NB222_224.out _; (with_reducible repeat (first | refine blk_drewN ?_ _ | refine blk_drew ?_ | refine blk_alloc ?_ _)); refine blk_far ?_ NB222_224.out _; (with_reducible repeat (first | refine blk_drewN ?_ _ | refine blk_drew ?_ | refine blk_alloc ?_ _)); refine blk_far ?_ NB222_224.out _; (with_reducible repeat (first | refine blk_drewN ?_ _ | refine blk_drew ?_ | refine blk_alloc ?_ _)); refine blk_far ?_ NB222_224.out _; (with_reducible repeat (first | refine blk_drewN ?_ _ | refine blk_drew ?_ | refine blk_alloc ?_ _)); exact BK222.out⟩, ⟨by (with_reducible repeat (first | refine blk_drewN ?_ _ | refine blk_drew ?_ | refine blk_alloc ?_ _)); refine blk_put (cs := #[.slice none 0 0, .slice none 0 0, .int .i64 (wrap64 (4096 * (l0.length : Int))), .int .i64 0]) ?_ 3 _ rfl; (with_reducible repeat (first | refine blk_drewN ?_ _ | refine blk_drew ?_ | refine blk_alloc ?_ _)); refine blk_put (cs := #[.slice none 0 0, .slice none 0 0, .int .i64 0, .int .i64 0]) ?_ 2 _ rfl; (with_reducible repeat (first | refine blk_drewN ?_ _ | refine blk_drew ?_ | refine blk_alloc ?_ _)); refine blk_put (cs := #[.slice none 0 0, .slice none 0 0, .int .i64 0, .int .i64 0]) ?_ 1 _ rfl; (with_reducible repeat (first | refine blk_drewN ?_ _ | refine blk_drew ?_ | refine blk_alloc ?_ _)); refine blk_put (cs := #[.slice none 0 0, .slice none 0 0, .int .i64 0, .int .i64 0]) ?_ 0 _ rfl; (with_reducible repeat (first | refine blk_drewN ?_ _ | refine blk_drew ?_ | refine blk_alloc ?_ _)); exact BK224.out⟩, ⟨by repeat (first | (with_reducible first | exact HB.out | apply below_alloc | apply pw_below_drewN | apply below_drew1 | refine below_set ?_ GE222.out | refine below_set ?_ GE224.out) | exact HB.out)⟩⟩
    case round =>
      clear H'
      try clear c1
      try clear p2
      try clear c3
      try clear c6
      try clear p6
      try clear hcz7_0
      try clear hcz7_1
      try clear hcz7_2
      try clear hcz7_3
      try clear hfz7_0
      try clear hfz7_1
      try clear hfz7_2
      try clear hfz7_3
      obtain ⟨x4_1, x225002_1, rfl, HA, HK1, BK222, BK224, HB⟩ := hrel
      cases gk with
      | zero => exact absurd HA.out (by simp [chapmanref36_ReadIn.l0])
      | succ k1 =>
        have H := HA.out
        clear HA
        simp only [chapmanref36_ReadIn.l0] at H
        by_cases c8 : x4_1 < (l0.length : Int)
        · rw [if_pos c8] at H
          have c8b0 : decide (x4_1 < (l0.length : Int)) = true := decide_eq_true c8
          clear c8
          by_cases c9 : 0 ≤ x4_1
          · rw [if_pos c9] at H
            have c9b0 : decide (0 ≤ x4_1) = true := decide_eq_true c9
            clear c9
            have H' := Aside0.mk H
            clear H
            try go_wp2
            have n0_ := Aside0.mk (blk_drew BK222.out)
            have n1_ := Aside0.mk (blk_drew BK224.out)
            have n2_ := Aside0.mk (below_drew1 HB.out)
            clear BK222
            clear BK224
            clear HB
            have BK222 := n0_
            have BK224 := n1_
            have HB := n2_
            clear n0_ n1_ n2_
            have p225 : 0 ≤ (x4_1 : Int) := of_decide_eq_true (by first | (with_reducible assumption) | assumption)
            have q225 : x4_1 < (l0.length : Int) := of_decide_eq_true (by first | (with_reducible assumption) | assumption)
            obtain ⟨ad225, e225, hx225_0, hx225_1⟩ := at_T43 HR0.out x4_1 p225 q225
            have hw225_1 := hx225_1
            have hw225_0 := hx225_0
            cases e225
            replace hx225_0 := (HB.out.cell (World.block_lt_of_cell? w _ hx225_0)).trans hx225_0
            replace hx225_1 := (HB.out.cell (World.block_lt_of_cell? w _ hx225_1)).trans hx225_1
            replace p225 := eq_true p225
            replace q225 := eq_true q225
            refine start_ (n := 10) (S := fun w' => w'.cell? ⟨gb224, 0, none⟩ = some (.slice none 0 0) ∧ w'.cell? ⟨gb224, 1, none⟩ = some (.slice none 0 0) ∧ w'.cell? ⟨gb224, 2, none⟩ = some (.int .i64 x225002_1) ∧ w'.cell? ⟨gb224, 3, none⟩ = some (.int .i64 0) ∧ w'.cell? (ad225.add ((x4_1).toNat * 2)) = some (.int .i64 ((rd_T43 l0 x4_1).f0)) ∧ w'.cell? ⟨(ad225.add ((x4_1).toNat * 2)).block, (ad225.add ((x4_1).toNat * 2)).off + 1, none⟩ = some (.int .i64 ((rd_T43 l0 x4_1).f1))) (ds := [9]) #[false, false, false, false, false, false, false, false, false, false] (by kernel_rfl) rfl rfl ⟨(blk_cell BK224.out 0).trans rfl, (blk_cell BK224.out 1).trans rfl, (blk_cell BK224.out 2).trans rfl, (blk_cell BK224.out 3).trans rfl, ((HB.out.cell (World.block_lt_of_cell? w _ hw225_0)).trans hw225_0), ((HB.out.cell (World.block_lt_of_cell? w _ hw225_1)).trans hw225_1)⟩ (fun hHeld => ?_); refine with_tabW chapmanref36_ReadIn.tab7 chapmanref36_ReadIn.bits7 (fun HT_ HW_ => ?_)
            generalize wr.drew = w10 at BK222 BK224 HB hx225_0 hx225_1 hHeld ⊢
            refine pure_ (i := 0) (N := some 19) (v := ?_) (a' := ?_) #[true, false, false, false, false, false, false, false, false, false] rfl rfl (any_of HT_.out (by kernel_rfl)) (fun _ _ _ h => h) (Or.inl ⟨by rfl, ?_⟩) ?_ ?_
            rotate_left
            · intro w'
              go_simp
              with_reducible rfl
            rotate_left
            · simp only [Act.put, List.setIfInBounds_toArray, List.set_cons_zero, List.set_cons_succ, i64_w, i32_w]
              rfl
            refine pure_ (i := 2) (N := some 21) (v := ?_) (a' := ?_) #[true, false, true, false, false, false, false, false, false, false] rfl rfl (any_of HT_.out (by kernel_rfl)) (fun _ _ _ h => h) (Or.inl ⟨by rfl, ?_⟩) ?_ ?_
            rotate_left
            · intro w'
              go_simp
              with_reducible rfl
            rotate_left
            · simp only [Act.put, List.setIfInBounds_toArray, List.set_cons_zero, List.set_cons_succ, i64_w, i32_w]
              rfl
            refine pure_ (i := 3) (N := some 22) (v := ?_) (a' := ?_) #[true, false, true, true, false, false, false, false, false, false] rfl rfl (any_of HT_.out (by kernel_rfl)) (fun _ _ _ h => h) (Or.inl ⟨by rfl, ?_⟩) ?_ ?_
            rotate_left
            · intro w'
              go_simp
              with_reducible rfl
            rotate_left
            · simp only [Act.put, List.setIfInBounds_toArray, List.set_cons_zero, List.set_cons_succ, i64_w, i32_w]
              rfl
            refine pure_ (i := 4) (N := some 23) (v := ?_) (a' := ?_) #[true, false, true, true, true, false, false, false, false, false] rfl rfl (any_of HT_.out (by kernel_rfl)) (fun _ _ _ h => h) (Or.inl ⟨by rfl, ?_⟩) ?_ ?_
            rotate_left
            · intro w'
              go_simp
              with_reducible rfl
            rotate_left
            · simp only [Act.put, List.setIfInBounds_toArray, List.set_cons_zero, List.set_cons_succ, i64_w, i32_w]
              rfl
            refine pure_ (i := 5) (N := some 24) (v := ?_) (a' := ?_) #[true, false, true, true, true, true, false, false, false, false] rfl rfl (any_of HT_.out (by kernel_rfl)) (fun _ _ _ h => h) (Or.inl ⟨by rfl, ?_⟩) ?_ ?_
            rotate_left
            · intro w'
              go_simp
              with_reducible rfl
            rotate_left
            · simp only [Act.put, List.setIfInBounds_toArray, List.set_cons_zero, List.set_cons_succ, i64_w, i32_w]
              rfl
            refine take_ (i := 1) (N := some 20) (v := ?_) (a' := ?_) #[true, true, true, true, true, true, false, false, false, false] rfl rfl (take_ofW HT_.out HW_.out (by kernel_rfl)) (fun _ _ _ h => h) (Or.inl ⟨by rfl, ?_⟩) hHeld ?_ ?_
            rotate_left
            · rintro w' ⟨s0, s1, s2, s3, s4, s5⟩
              go_simp
              with_reducible rfl
            rotate_left
            · simp only [Act.put, List.setIfInBounds_toArray, List.set_cons_zero, List.set_cons_succ, i64_w, i32_w]
              rfl
            refine take_ (i := 6) (N := some 25) (v := ?_) (a' := ?_) #[true, true, true, true, true, true, true, false, false, false] rfl rfl (take_ofW HT_.out HW_.out (by kernel_rfl)) (fun _ _ _ h => h) (Or.inl ⟨by rfl, ?_⟩) hHeld ?_ ?_
            rotate_left
            · rintro w' ⟨s0, s1, s2, s3, s4, s5⟩
              go_simp
              with_reducible rfl
            rotate_left
            · simp only [Act.put, List.setIfInBounds_toArray, List.set_cons_zero, List.set_cons_succ, i64_w, i32_w]
              rfl
            refine pure_ (i := 7) (N := some 26) (v := ?_) (a' := ?_) #[true, true, true, true, true, true, true, true, false, false] rfl rfl (any_of HT_.out (by kernel_rfl)) (fun _ _ _ h => h) (Or.inl ⟨by rfl, ?_⟩) ?_ ?_
            rotate_left
            · intro w'
              go_simp
              with_reducible rfl
            rotate_left
            · simp only [Act.put, List.setIfInBounds_toArray, List.set_cons_zero, List.set_cons_succ, i64_w, i32_w]
              rfl
            refine pure_ (i := 8) (N := some 27) (v := ?_) (a' := ?_) #[true, true, true, true, true, true, true, true, true, false] rfl rfl (any_of HT_.out (by kernel_rfl)) (fun _ _ _ h => h) (Or.inl ⟨by rfl, ?_⟩) ?_ ?_
            rotate_left
            · intro w'
              go_simp
              with_reducible rfl
            rotate_left
            · simp only [Act.put, List.setIfInBounds_toArray, List.set_cons_zero, List.set_cons_succ, i64_w, i32_w]
              rfl
            refine last_ (i := 9) (N := none) #[true, true, true, true, true, true, true, true, true, true] rfl rfl (one_of HT_.out (by kernel_rfl)) (by decide) (fun K hK => ?_)
            have hs11 : w10.cell? ⟨gb224, 2, none⟩ = some (.int .i64 x225002_1) := (blk_cell BK224.out 2).trans rfl
            have hfs11 := blk_frozen BK224.out 2
            have hns11_0 := NB222_224.out
            have hms11_0 := NB224_222.out
            refine skip_ (w1 := ?_) (by rfl) rfl ?_ ?_
            rotate_left
            · go_simp
              rfl
            refine hK.out _ _ ?_
            clear hK K
            refine done_ (done_of HT_.out (by kernel_rfl)) ?_
            try go_wp2
            go_roundg k1
            case measure => have := HK1.out; omega
            case rel => exact ⟨(wrap64 (x4_1 + 1)), (wrap64 (x225002_1 + ((rd_T43 l0 x4_1).f1))), (by first | rfl | (simp; done) | (simp [*]; done)), H', ⟨by have := HK1.out; omega⟩, ⟨by (with_reducible repeat (first | refine blk_drewN ?_ _ | refine blk_drew ?_ | refine blk_alloc ?_ _)); refine blk_far ?_ NB222_224.out _; (with_reducible repeat (first | refine blk_drewN ?_ _ | refine blk_drew ?_ | refine blk_alloc ?_ _)); exact BK222.out⟩, ⟨by (with_reducible repeat (first | refine blk_drewN ?_ _ | refine blk_drew ?_ | refine blk_alloc ?_ _)); refine blk_put (cs := #[.slice none 0 0, .slice none 0 0, .int .i64 x225002_1, .int .i64 0]) ?_ 2 _ rfl; (with_reducible repeat (first | refine blk_drewN ?_ _ | refine blk_drew ?_ | refine blk_alloc ?_ _)); exact BK224.out⟩, ⟨by repeat (first | (with_reducible first | exact HB.out | apply below_alloc | apply pw_below_drewN | apply below_drew1 | refine below_set ?_ GE222.out | refine below_set ?_ GE224.out) | exact HB.out)⟩⟩
          · rw [if_neg c9] at H
            exact absurd H (by simp)
        · rw [if_neg c8] at H
          have c8b0 : decide (x4_1 < (l0.length : Int)) = false := decide_eq_false c8
          clear c8
          simp only [Option.some.injEq, Prod.mk.injEq] at H
          obtain ⟨rfl, rfl, rfl, rfl⟩ := H
          have hnb12 := NB224_222.out
          have hnc12 := NB222_224.out
          have hcz13_0 : wr.cell? ⟨gb224, 0, none⟩ = some (.slice none 0 0) := (blk_cell BK224.out 0).trans rfl
          have hcz13_1 : wr.cell? ⟨gb224, 1, none⟩ = some (.slice none 0 0) := (blk_cell BK224.out 1).trans rfl
          have hcz13_2 : wr.cell? ⟨gb224, 2, none⟩ = some (.int .i64 x225002_1) := (blk_cell BK224.out 2).trans rfl
          have hcz13_3 : wr.cell? ⟨gb224, 3, none⟩ = some (.int .i64 0) := (blk_cell BK224.out 3).trans rfl
          have hfz13_0 := blk_frozen BK224.out 0
          have hfz13_1 := blk_frozen BK224.out 1
          have hfz13_2 := blk_frozen BK224.out 2
          have hfz13_3 := blk_frozen BK224.out 3
          have hcz14_0 : wr.cell? ⟨gb222, 0, none⟩ = some (.slice none 0 0) := (blk_cell BK222.out 0).trans rfl
          have hcz14_1 : wr.cell? ⟨gb222, 1, none⟩ = some (.slice none 0 0) := (blk_cell BK222.out 1).trans rfl
          have hcz14_2 : wr.cell? ⟨gb222, 2, none⟩ = some (.int .i64 0) := (blk_cell BK222.out 2).trans rfl
          have hcz14_3 : wr.cell? ⟨gb222, 3, none⟩ = some (.int .i64 0) := (blk_cell BK222.out 3).trans rfl
          have hfz14_0 := blk_frozen BK222.out 0
          have hfz14_1 := blk_frozen BK222.out 1
          have hfz14_2 := blk_frozen BK222.out 2
          have hfz14_3 := blk_frozen BK222.out 3
          go_wp2
          refine bodyPost_ret (results_cell_row rfl _ _ gb222 36 #[.slice none 0 0, .slice none 0 0, .int .i64 x225002_1, .int .i64 0] (0, 0) _ rfl (by (with_reducible repeat (first | refine blk_drewN ?_ _ | refine blk_drew ?_ | refine blk_alloc ?_ _)); refine blk_put (cs := #[.slice none 0 0, .slice none 0 0, .int .i64 x225002_1, .int .i64 0]) ?_ 3 _ rfl; (with_reducible repeat (first | refine blk_drewN ?_ _ | refine blk_drew ?_ | refine blk_alloc ?_ _)); refine blk_put (cs := #[.slice none 0 0, .slice none 0 0, .int .i64 0, .int .i64 0]) ?_ 2 _ rfl; (with_reducible repeat (first | refine blk_drewN ?_ _ | refine blk_drew ?_ | refine blk_alloc ?_ _)); refine blk_put (cs := #[.slice none 0 0, .slice none 0 0, .int .i64 0, .int .i64 0]) ?_ 1 _ rfl; (with_reducible repeat (first | refine blk_drewN ?_ _ | refine blk_drew ?_ | refine blk_alloc ?_ _)); refine blk_put (cs := #[.slice none 0 0, .slice none 0 0, .int .i64 0, .int .i64 0]) ?_ 0 _ rfl; (with_reducible repeat (first | refine blk_drewN ?_ _ | refine blk_drew ?_ | refine blk_alloc ?_ _)); exact BK222.out) Try.underlying36 rfl (by kernel_rfl)) rfl ?_
          exact ⟨_, _, by first | rfl | (simp [errW_none, errW_some] <;> rfl) | (simp [*, errW_none, errW_some] <;> rfl), by first | exact Kd.R_nil _ _ _ _ _ | exact Kd.N_nil _ _ _ _ _ | exact Kd.V_nil _ _ _ _ _ | exact Kd.Q_nil _ _ _ _ _ | exact Kd.S_nil _ _ _ _ _, by first | exact Kd.R_nil _ _ _ _ _ | exact Kd.N_nil _ _ _ _ _ | exact Kd.V_nil _ _ _ _ _ | exact Kd.Q_nil _ _ _ _ _ | exact Kd.S_nil _ _ _ _ _, by repeat (first | (with_reducible first | exact HB.out | apply below_alloc | apply pw_below_drewN | apply below_drew1 | refine below_set ?_ GE222.out | refine below_set ?_ GE224.out) | exact HB.out)⟩
  · replace c3 := Bool.eq_false_iff.mpr c3
    subst c3
    have H1 : (some (([] : List (List Int)), ([] : List (S43)), 0, 1)) = some (r1, r2, r3, r4) := by rw [if_neg (show ¬ (false = true) by decide)] at H; exact H
    clear H
    have H := H1
    clear H1
    simp only [Option.some.injEq, Prod.mk.injEq] at H
    obtain ⟨rfl, rfl, rfl, rfl⟩ := H
    go_enter Try.func18, Try.ntmps18
    go_wp2_with (first | ((with_reducible refine gate_dst (N := 2) rfl ?_); refine box_event ?hg (N := 2) ?hd (cs := #[.slice none 0 0, .slice none 0 0, .int .i64 0, .int .i64 0]) (t := 36) ?hr ?_; (case hd => rfl); (case hg => rfl); (case hr => first | (go_simp; done) | (go_simp; rfl)); intro gb222 hg w15 hbox hb; have n0_ := Aside0.mk (below_step (by repeat (first | (with_reducible first | exact HB.out | apply below_alloc | apply pw_below_drewN | apply below_drew1) | exact HB.out)) hb); have n1_ := Aside0.mk (hbox); have n2_ := Aside0.mk ((by rw [hg]; exact (below_size (by repeat (first | (with_reducible first | exact HB.out | apply below_alloc | apply pw_below_drewN | apply below_drew1) | exact HB.out))) : w.heap.size ≤ gb222)); have n3_ := Aside0.mk ((by rw [hg]; exact (below_size (by repeat (first | (with_reducible first | exact HB.out | apply below_alloc | apply pw_below_drewN | apply below_drew1) | exact HB.out))) : w.heap.size ≤ gb222)); clear HB; have HB := n0_; have BK222 := n1_; have GW222 := n2_; have GE222 := n3_; clear n0_ n1_ n2_ n3_; clear hb hbox hg) | ((with_reducible refine gate_callee (f := 13) rfl ?_); refine goesL_ (some 6) rfl rfl Try.func13 (by kernel_rfl) rfl #[.slice A0 l0.length c0] rfl (by (try simp only [List.map_toArray, List.map_cons, List.map_nil]); first | done | rfl | (simp only [List.length_drop, List.length_take]; rfl)) ?_; (with_reducible refine (chapmanref36_Valid.calls k _ _ l0 false _ ?side1 ?side2 A2.out).mono ?_); (case side1 => repeat (first | exact (Kd.C_below HR0.out HB.out) | (with_reducible refine Kd.C_alloc ?_ _) | (with_reducible refine Kd.C_drewN ?_ _) | (with_reducible refine Kd.C_drew ?_))); (case side2 => exact HC0.out); rintro e w' ⟨rfl, ⟨nd, rfl⟩⟩; refine ⟨_, rfl, ?_⟩; (try (rw [drewN_self w15]; generalize hq_ : World.drewN w15 _ = w15; have n0_ : Aside0 (w15.heap[gb222]? = some (.cells #[.slice none 0 0, .slice none 0 0, .int .i64 0, .int .i64 0] 36 (0, 0))) := ⟨by rw [← hq_]; exact (by (with_reducible repeat (first | refine blk_drewN ?_ _ | refine blk_drew ?_ | refine blk_alloc ?_ _)); exact BK222.out)⟩; have n1_ : Aside0 (Below w.heap.size w w15) := ⟨by rw [← hq_]; exact (by repeat (first | (with_reducible first | exact HB.out | apply below_alloc | apply pw_below_drewN | apply below_drew1 | refine below_set ?_ GE222.out) | exact HB.out))⟩; clear BK222 HB hq_; have BK222 := n0_; have HB := n1_; clear n0_ n1_)); have hcz16_0 : w15.cell? ⟨gb222, 0, none⟩ = some (.slice none 0 0) := (blk_cell BK222.out 0).trans rfl; have hcz16_1 : w15.cell? ⟨gb222, 1, none⟩ = some (.slice none 0 0) := (blk_cell BK222.out 1).trans rfl; have hcz16_2 : w15.cell? ⟨gb222, 2, none⟩ = some (.int .i64 0) := (blk_cell BK222.out 2).trans rfl; have hcz16_3 : w15.cell? ⟨gb222, 3, none⟩ = some (.int .i64 0) := (blk_cell BK222.out 3).trans rfl; have hfz16_0 := blk_frozen BK222.out 0; have hfz16_1 := blk_frozen BK222.out 1; have hfz16_2 := blk_frozen BK222.out 2; have hfz16_3 := blk_frozen BK222.out 3))
    refine bodyPost_ret (results_cell_row rfl _ _ gb222 36 #[.slice none 0 0, .slice none 0 0, .int .i64 0, .int .i64 1] (0, 0) _ rfl (by (with_reducible repeat (first | refine blk_drewN ?_ _ | refine blk_drew ?_ | refine blk_alloc ?_ _)); refine blk_put (cs := #[.slice none 0 0, .slice none 0 0, .int .i64 0, .int .i64 0]) ?_ 3 _ rfl; (with_reducible repeat (first | refine blk_drewN ?_ _ | refine blk_drew ?_ | refine blk_alloc ?_ _)); refine blk_put (cs := #[.slice none 0 0, .slice none 0 0, .int .i64 0, .int .i64 0]) ?_ 2 _ rfl; (with_reducible repeat (first | refine blk_drewN ?_ _ | refine blk_drew ?_ | refine blk_alloc ?_ _)); refine blk_put (cs := #[.slice none 0 0, .slice none 0 0, .int .i64 0, .int .i64 0]) ?_ 1 _ rfl; (with_reducible repeat (first | refine blk_drewN ?_ _ | refine blk_drew ?_ | refine blk_alloc ?_ _)); refine blk_put (cs := #[.slice none 0 0, .slice none 0 0, .int .i64 0, .int .i64 0]) ?_ 0 _ rfl; (with_reducible repeat (first | refine blk_drewN ?_ _ | refine blk_drew ?_ | refine blk_alloc ?_ _)); exact BK222.out) Try.underlying36 rfl (by kernel_rfl)) rfl ?_
    exact ⟨_, _, by first | rfl | (simp [errW_none, errW_some] <;> rfl) | (simp [*, errW_none, errW_some] <;> rfl), by first | exact Kd.R_nil _ _ _ _ _ | exact Kd.N_nil _ _ _ _ _ | exact Kd.V_nil _ _ _ _ _ | exact Kd.Q_nil _ _ _ _ _ | exact Kd.S_nil _ _ _ _ _, by first | exact Kd.R_nil _ _ _ _ _ | exact Kd.N_nil _ _ _ _ _ | exact Kd.V_nil _ _ _ _ _ | exact Kd.Q_nil _ _ _ _ _ | exact Kd.S_nil _ _ _ _ _, by repeat (first | (with_reducible first | exact HB.out | apply below_alloc | apply pw_below_drewN | apply below_drew1 | refine below_set ?_ GE222.out) | exact HB.out)⟩
def chapmanref36_group.l0 : Nat → List (S43) → List Int → Int → Option (Bool)
  | 0, _, _, _ => none
  | k + 1, x0, x1, x5 => if x5 < (x1.length : Int) then (if 0 ≤ x5 then (if (rd x1 x5) < 0 then (some false) else (if (rd x1 x5) ≥ (x0.length : Int) then (some false) else (if x5 > 0 then (if 0 ≤ (wrap64 (x5 - 1)) then (if (wrap64 (x5 - 1)) < (x1.length : Int) then (if (rd x1 (wrap64 (x5 - 1))) ≥ (rd x1 x5) then (some false) else (chapmanref36_group.l0 k x0 x1 (wrap64 (x5 + 1)))) else (none)) else (none)) else (chapmanref36_group.l0 k x0 x1 (wrap64 (x5 + 1)))))) else (none)) else (some (decide ((x1.length : Int) > 0)))
def chapmanref36_group.f (k : Nat) (l0 : List (S43)) (l1 : List Int) : Option (Bool) := chapmanref36_group.l0 k l0 l1 0
set_option maxHeartbeats 8000000 in
set_option maxRecDepth 100000 in
theorem chapmanref36_group.calls (k : Nat) (A0 : Option Addr) (c0 : Nat) (l0 : List (S43)) (A1 : Option Addr) (c1 : Nat) (l1 : List Int) (r : Bool) (w : World) (hr0 : Kd.C k43 w A0 l0.length l0) (hc0 : l0.length ≤ c0) (hr1 : Kd.C (Kd.int .i64) w A1 l1.length l1) (hc1 : l1.length ≤ c1) (h : chapmanref36_group.f k l0 l1 = some r) :
    Calls Try.prog 37 #[.slice A0 l0.length c0, .slice A1 l1.length c1] w fun e w' => e = .returned (.bool r) ∧ Drawn0 w w' := by
  have HR0 := Aside0.mk hr0
  have HC0 := Aside0.mk hc0
  clear hr0 hc0
  have HR1 := Aside0.mk hr1
  have HC1 := Aside0.mk hc1
  clear hr1 hc1
  have H : (chapmanref36_group.l0 k l0 l1 0) = some r := h
  clear h
  have H' := Aside0.mk H
  clear H
  go_enter Try.func37, Try.ntmps37
  go_wp2
  repeat (go_quiet (fail); try go_wp2)
  go_loopg [5] k (fun kq v5 w' => ∃ (x5_1 : Int), v5 = .int .i64 x5_1 ∧ Aside0 (chapmanref36_group.l0 kq l0 l1 x5_1 = some r) ∧ Aside0 (kq ≤ k) ∧ Drawn0 w w')
  case atStart => exact ⟨(0), (by first | rfl | (simp; done) | (simp [*]; done)), H', ⟨Nat.le_refl _⟩, by repeat (first | exact Drawn0.refl _ | apply Drawn0.step)⟩
  case round =>
    clear H'
    try clear c1
    try clear p2
    obtain ⟨x5_1, rfl, HA, HK1, ⟨m1, rfl⟩⟩ := hrel
    cases gk with
    | zero => exact absurd HA.out (by simp [chapmanref36_group.l0])
    | succ k1 =>
      have H := HA.out
      clear HA
      simp only [chapmanref36_group.l0] at H
      by_cases c3 : x5_1 < (l1.length : Int)
      · rw [if_pos c3] at H
        have c3b0 : decide (x5_1 < (l1.length : Int)) = true := decide_eq_true c3
        clear c3
        by_cases c4 : 0 ≤ x5_1
        · rw [if_pos c4] at H
          have c4b0 : decide (0 ≤ x5_1) = true := decide_eq_true c4
          clear c4
          by_cases c5 : (rd l1 x5_1) < 0
          · rw [if_pos c5] at H
            have c5b0 : decide ((rd l1 x5_1) < 0) = true := decide_eq_true c5
            clear c5
            obtain rfl := Option.some.inj H
            have p226 : 0 ≤ (x5_1 : Int) := of_decide_eq_true (by first | (with_reducible assumption) | assumption)
            have q226 : x5_1 < (l1.length : Int) := of_decide_eq_true (by first | (with_reducible assumption) | assumption)
            obtain ⟨ad226, e226, hx226_0⟩ := Kd.at_int HR1.out x5_1 p226 q226
            cases e226
            replace p226 := eq_true p226
            replace q226 := eq_true q226
            go_wp2
            repeat (go_quiet (fail); try go_wp2)
            go_ret
            exact ⟨by first | rfl | (simp; done) | (simp [*]; done), by repeat (first | exact Drawn0.refl _ | apply Drawn0.step)⟩
          · rw [if_neg c5] at H
            have c5b0 : decide ((rd l1 x5_1) < 0) = false := decide_eq_false c5
            clear c5
            by_cases c6 : (rd l1 x5_1) ≥ (l0.length : Int)
            · rw [if_pos c6] at H
              have c6b0 : decide ((l0.length : Int) ≤ (rd l1 x5_1)) = true := decide_eq_true c6
              clear c6
              obtain rfl := Option.some.inj H
              have p226 : 0 ≤ (x5_1 : Int) := of_decide_eq_true (by first | (with_reducible assumption) | assumption)
              have q226 : x5_1 < (l1.length : Int) := of_decide_eq_true (by first | (with_reducible assumption) | assumption)
              obtain ⟨ad226, e226, hx226_0⟩ := Kd.at_int HR1.out x5_1 p226 q226
              cases e226
              replace p226 := eq_true p226
              replace q226 := eq_true q226
              have p227 : 0 ≤ (x5_1 : Int) := of_decide_eq_true (by first | (with_reducible assumption) | assumption)
              have q227 : x5_1 < (l1.length : Int) := of_decide_eq_true (by first | (with_reducible assumption) | assumption)
              obtain ⟨ad227, e227, hx227_0⟩ := Kd.at_int HR1.out x5_1 p227 q227
              obtain rfl : ad226 = ad227 := (by injection e227)
              replace p227 := eq_true p227
              replace q227 := eq_true q227
              go_wp2
              repeat (go_quiet (fail); try go_wp2)
              go_ret
              exact ⟨by first | rfl | (simp; done) | (simp [*]; done), by repeat (first | exact Drawn0.refl _ | apply Drawn0.step)⟩
            · rw [if_neg c6] at H
              have c6b0 : decide ((l0.length : Int) ≤ (rd l1 x5_1)) = false := decide_eq_false c6
              clear c6
              by_cases c7 : x5_1 > 0
              · rw [if_pos c7] at H
                have c7b0 : decide (0 < x5_1) = true := decide_eq_true c7
                clear c7
                obtain ⟨ji8, hji8⟩ : ∃ j_ : Int, (wrap64 (x5_1 - 1)) = j_ := ⟨_, rfl⟩
                replace H : (if 0 ≤ (ji8) then (if (ji8) < (l1.length : Int) then (if (rd l1 (ji8)) ≥ (rd l1 x5_1) then (some false) else (chapmanref36_group.l0 k1 l0 l1 (wrap64 (x5_1 + 1)))) else (none)) else (none)) = some r := by first | (rw [hji8] at H; exact H) | (simp only [hji8] at H ⊢; exact H)
                have hji8w : (IntKind.i64.wrap (x5_1 - 1)) = ji8 := (i64_w _).trans hji8
                by_cases c9 : 0 ≤ (ji8)
                · rw [if_pos c9] at H
                  have c9b0 : decide (0 ≤ (ji8)) = true := decide_eq_true c9
                  clear c9
                  by_cases c10 : (ji8) < (l1.length : Int)
                  · rw [if_pos c10] at H
                    have c10b0 : decide ((ji8) < (l1.length : Int)) = true := decide_eq_true c10
                    clear c10
                    by_cases c11 : (rd l1 (ji8)) ≥ (rd l1 x5_1)
                    · rw [if_pos c11] at H
                      have c11b0 : decide ((rd l1 x5_1) ≤ (rd l1 (ji8))) = true := decide_eq_true c11
                      clear c11
                      obtain rfl := Option.some.inj H
                      have p226 : 0 ≤ (x5_1 : Int) := of_decide_eq_true (by first | (with_reducible assumption) | assumption)
                      have q226 : x5_1 < (l1.length : Int) := of_decide_eq_true (by first | (with_reducible assumption) | assumption)
                      obtain ⟨ad226, e226, hx226_0⟩ := Kd.at_int HR1.out x5_1 p226 q226
                      cases e226
                      replace p226 := eq_true p226
                      replace q226 := eq_true q226
                      have p227 : 0 ≤ (x5_1 : Int) := of_decide_eq_true (by first | (with_reducible assumption) | assumption)
                      have q227 : x5_1 < (l1.length : Int) := of_decide_eq_true (by first | (with_reducible assumption) | assumption)
                      obtain ⟨ad227, e227, hx227_0⟩ := Kd.at_int HR1.out x5_1 p227 q227
                      obtain rfl : ad226 = ad227 := (by injection e227)
                      replace p227 := eq_true p227
                      replace q227 := eq_true q227
                      have p228 : 0 ≤ ((ji8) : Int) := of_decide_eq_true (by first | (with_reducible assumption) | assumption)
                      have q228 : (ji8) < (l1.length : Int) := of_decide_eq_true (by first | (with_reducible assumption) | assumption)
                      obtain ⟨ad228, e228, hx228_0⟩ := Kd.at_int HR1.out (ji8) p228 q228
                      obtain rfl : ad226 = ad228 := (by injection e228)
                      replace p228 := eq_true p228
                      replace q228 := eq_true q228
                      have p229 : 0 ≤ (x5_1 : Int) := of_decide_eq_true (by first | (with_reducible assumption) | assumption)
                      have q229 : x5_1 < (l1.length : Int) := of_decide_eq_true (by first | (with_reducible assumption) | assumption)
                      obtain ⟨ad229, e229, hx229_0⟩ := Kd.at_int HR1.out x5_1 p229 q229
                      obtain rfl : ad226 = ad229 := (by injection e229)
                      replace p229 := eq_true p229
                      replace q229 := eq_true q229
                      go_wp2
                      repeat (go_quiet (fail); try go_wp2)
                      go_ret
                      exact ⟨by first | rfl | (simp; done) | (simp only [← hji8] <;> (first | rfl | simp)) | (simp [*]; done), by repeat (first | exact Drawn0.refl _ | apply Drawn0.step)⟩
                    · rw [if_neg c11] at H
                      have c11b0 : decide ((rd l1 x5_1) ≤ (rd l1 (ji8))) = false := decide_eq_false c11
                      clear c11
                      have H' := Aside0.mk H
                      clear H
                      have p226 : 0 ≤ (x5_1 : Int) := of_decide_eq_true (by first | (with_reducible assumption) | assumption)
                      have q226 : x5_1 < (l1.length : Int) := of_decide_eq_true (by first | (with_reducible assumption) | assumption)
                      obtain ⟨ad226, e226, hx226_0⟩ := Kd.at_int HR1.out x5_1 p226 q226
                      cases e226
                      replace p226 := eq_true p226
                      replace q226 := eq_true q226
                      have p227 : 0 ≤ (x5_1 : Int) := of_decide_eq_true (by first | (with_reducible assumption) | assumption)
                      have q227 : x5_1 < (l1.length : Int) := of_decide_eq_true (by first | (with_reducible assumption) | assumption)
                      obtain ⟨ad227, e227, hx227_0⟩ := Kd.at_int HR1.out x5_1 p227 q227
                      obtain rfl : ad226 = ad227 := (by injection e227)
                      replace p227 := eq_true p227
                      replace q227 := eq_true q227
                      have p228 : 0 ≤ ((ji8) : Int) := of_decide_eq_true (by first | (with_reducible assumption) | assumption)
                      have q228 : (ji8) < (l1.length : Int) := of_decide_eq_true (by first | (with_reducible assumption) | assumption)
                      obtain ⟨ad228, e228, hx228_0⟩ := Kd.at_int HR1.out (ji8) p228 q228
                      obtain rfl : ad226 = ad228 := (by injection e228)
                      replace p228 := eq_true p228
                      replace q228 := eq_true q228
                      have p229 : 0 ≤ (x5_1 : Int) := of_decide_eq_true (by first | (with_reducible assumption) | assumption)
                      have q229 : x5_1 < (l1.length : Int) := of_decide_eq_true (by first | (with_reducible assumption) | assumption)
                      obtain ⟨ad229, e229, hx229_0⟩ := Kd.at_int HR1.out x5_1 p229 q229
                      obtain rfl : ad226 = ad229 := (by injection e229)
                      replace p229 := eq_true p229
                      replace q229 := eq_true q229
                      go_wp2
                      repeat (go_quiet (fail); try go_wp2)
                      go_roundg k1
                      case measure => have := HK1.out; omega
                      case rel => exact ⟨(wrap64 (x5_1 + 1)), (by first | rfl | (simp; done) | (simp [*]; done)), H', ⟨by have := HK1.out; omega⟩, by repeat (first | exact Drawn0.refl _ | apply Drawn0.step)⟩
                  · rw [if_neg c10] at H
                    exact absurd H (by simp)
                · rw [if_neg c9] at H
                  exact absurd H (by simp)
              · rw [if_neg c7] at H
                have c7b0 : decide (0 < x5_1) = false := decide_eq_false c7
                clear c7
                have H' := Aside0.mk H
                clear H
                have p226 : 0 ≤ (x5_1 : Int) := of_decide_eq_true (by first | (with_reducible assumption) | assumption)
                have q226 : x5_1 < (l1.length : Int) := of_decide_eq_true (by first | (with_reducible assumption) | assumption)
                obtain ⟨ad226, e226, hx226_0⟩ := Kd.at_int HR1.out x5_1 p226 q226
                cases e226
                replace p226 := eq_true p226
                replace q226 := eq_true q226
                have p227 : 0 ≤ (x5_1 : Int) := of_decide_eq_true (by first | (with_reducible assumption) | assumption)
                have q227 : x5_1 < (l1.length : Int) := of_decide_eq_true (by first | (with_reducible assumption) | assumption)
                obtain ⟨ad227, e227, hx227_0⟩ := Kd.at_int HR1.out x5_1 p227 q227
                obtain rfl : ad226 = ad227 := (by injection e227)
                replace p227 := eq_true p227
                replace q227 := eq_true q227
                go_wp2
                repeat (go_quiet (fail); try go_wp2)
                go_roundg k1
                case measure => have := HK1.out; omega
                case rel => exact ⟨(wrap64 (x5_1 + 1)), (by first | rfl | (simp; done) | (simp [*]; done)), H', ⟨by have := HK1.out; omega⟩, by repeat (first | exact Drawn0.refl _ | apply Drawn0.step)⟩
        · rw [if_neg c4] at H
          exact absurd H (by simp)
      · rw [if_neg c3] at H
        have c3b0 : decide (x5_1 < (l1.length : Int)) = false := decide_eq_false c3
        clear c3
        obtain rfl := Option.some.inj H
        go_wp2
        repeat (go_quiet (fail); try go_wp2)
        go_ret
        exact ⟨by first | rfl | (simp; done) | (simp [*]; done), by repeat (first | exact Drawn0.refl _ | apply Drawn0.step)⟩
end Go.Proofs.Ytckempgpaojljaa.P
end
