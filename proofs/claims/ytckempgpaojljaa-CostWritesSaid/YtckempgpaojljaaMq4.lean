/- Parts of a proof, laid together: TGa, TGb, TGc, TGd, TGe, THg, TGg, TGi, TGj, TPx10, TGk, TGl, TGm, TGn, TGp, TGq, TGu, TGv, TGw, TGx, TPx6, TPx8, TGr, TPx7, TGs, THn, THo. -/
import Derived.Test.YtckempgpaojljaaMq3
import Derived.Test.YtckempgpaojljaaMq2
import Derived.Test.YtckempgpaojljaaMq1
section
/- What the printed functions tell, in plain terms: pieces, levels, validity, equality of lists, sums. -/
namespace Go.Proofs.Ytckempgpaojljaa.P
set_option linter.unusedVariables false
set_option linter.unusedSimpArgs false
open Go.RowKit Go.Proofs.YtckempgpaojljaaW.PrintWords Go.Proofs.YtckempgpaojljaaW.PrintLast Go.Proofs.YtckempgpaojljaaW.PrintMore
def Evt {α : Type} (g : Nat → Option α) (r : α) : Prop := ∃ K, ∀ k, K ≤ k → g k = some r
theorem Evt.pure {α : Type} (r : α) : Evt (fun _ => some r) r := ⟨0, fun _ _ => rfl⟩
theorem Evt.of {α : Type} {g : Nat → Option α} {r : α} (h : ∀ k, g k = some r) : Evt g r := ⟨0, fun k _ => h k⟩
theorem Evt.bind {α β : Type} {g : Nat → Option α} {h : Nat → α → Option β} {a : α} {r : β} (hg : Evt g a) (hh : Evt (fun k => h k a) r) : Evt (fun k => (g k).bind (h k)) r := by
  obtain ⟨K1, h1⟩ := hg
  obtain ⟨K2, h2⟩ := hh
  refine ⟨max K1 K2, fun k hk => ?_⟩
  show (g k).bind (h k) = some r
  rw [h1 k (by omega)]
  exact h2 k (by omega)
theorem Evt.step {α : Type} {g b : Nat → Option α} {r : α} (hb : Evt b r) (h : ∀ k, g (k + 1) = b k) : Evt g r := by
  obtain ⟨K, hK⟩ := hb
  refine ⟨K + 1, fun k hk => ?_⟩
  obtain ⟨m, rfl⟩ : ∃ m, k = m + 1 := ⟨k - 1, by omega⟩
  rw [h m]
  exact hK m (by omega)
theorem Evt.step' {α : Type} {g b : Nat → Option α} {r : α} (hb : Evt b r) (h : ∃ K, ∀ k, K ≤ k → g (k + 1) = b k) : Evt g r := by
  obtain ⟨K, hK⟩ := hb
  obtain ⟨K2, h2⟩ := h
  refine ⟨max K K2 + 1, fun k hk => ?_⟩
  obtain ⟨m, rfl⟩ : ∃ m, k = m + 1 := ⟨k - 1, by omega⟩
  rw [h2 m (by omega)]
  exact hK m (by omega)
theorem Evt.congr {α : Type} {g b : Nat → Option α} {r : α} (hb : Evt b r) (h : ∃ K, ∀ k, K ≤ k → g k = b k) : Evt g r := by
  obtain ⟨K, hK⟩ := hb
  obtain ⟨K2, h2⟩ := h
  refine ⟨max K K2, fun k hk => ?_⟩
  rw [h2 k (by omega)]
  exact hK k (by omega)
theorem Evt.loop {α : Type} (g : Nat → Nat → Option α) (n : Nat) {r : α} (he : Evt (g n) r) (hs : ∀ i, i < n → ∀ k, g i (k + 1) = g (i + 1) k) : Evt (g 0) r := by
  have : ∀ j, j ≤ n → Evt (g (n - j)) r := by
    intro j
    induction j with
    | zero => intro _; exact he
    | succ j ih =>
      intro hj
      refine (ih (by omega)).step (fun k => ?_)
      have := hs (n - (j + 1)) (by omega) k
      rw [show n - (j + 1) + 1 = n - j by omega] at this
      exact this
  have := this n (Nat.le_refl _)
  rwa [Nat.sub_self] at this
theorem w64in (n : Int) (h : -9223372036854775808 ≤ n ∧ n ≤ 9223372036854775807) : wrap64 n = n := by unfold wrap64; omega
theorem w64s {i : Nat} (h : i < 9223372036854775807) : wrap64 ((i : Int) + 1) = ((i + 1 : Nat) : Int) := (w64in ((i : Int) + 1) (by omega)).trans (by omega)
theorem rd43 {l : List S43} {i : Nat} (h : i < l.length) : rd_T43 l (i : Int) = l[i] := by simp [rd_T43, List.getD_eq_getElem?_getD, h]
theorem rd59 {l : List S59} {i : Nat} (h : i < l.length) : rd_T59 l (i : Int) = l[i] := by simp [rd_T59, List.getD_eq_getElem?_getD, h]
theorem rdL5 {l : List (List Int)} {i : Nat} (h : i < l.length) : rd_L5 l (i : Int) = l[i] := by simp [rd_L5, List.getD_eq_getElem?_getD, h]
theorem rdI {l : List Int} {i : Nat} (h : i < l.length) : rd l (i : Int) = l[i] := by simp [rd, List.getD_eq_getElem?_getD, h]
def pcs (l : List S43) : List S59 := l.map fun p => ⟨p.f0, p.f1⟩
theorem pcs_length (l : List S43) : (pcs l).length = l.length := by simp [pcs]
def unp (l : List S59) : List S43 := l.map fun p => ⟨p.f0, p.f1⟩
theorem map_take_succ {α β : Type} (f : α → β) (l : List α) {i : Nat} (h : i < l.length) : (l.take (i + 1)).map f = (l.take i).map f ++ [f l[i]] := by
  rw [List.take_add_one, List.getElem?_eq_getElem h, List.map_append]
  rfl
theorem pieces_ev (l : List S43) (h : l.length ≤ 1000000) : Evt (fun k => chapmanlaw36_pieces.f k l) (pcs l) := by
  refine Evt.loop (fun i k => chapmanlaw36_pieces.l0 k l ((l.take i).map fun p => ⟨p.f0, p.f1⟩) (i : Int)) l.length ?_ (fun i hi k => ?_)
  · refine (Evt.pure _).step (fun k => ?_)
    show (if _ then _ else _) = _
    rw [if_neg (by omega), List.take_length]
    rfl
  · show (if _ then _ else _) = _
    rw [if_pos (by omega), if_pos (by omega), if_pos (by rw [List.length_map, List.length_take]; omega), w64s (by omega), rd43 hi, map_take_succ _ _ hi]
theorem level_ev (n : Int) (h : n ≤ 9223372036854775807) : Evt (fun k => cost_Level.f k n) (lv n.toNat) := by
  have key : ∀ (m : Nat) (n : Int) (j : Int), n.toNat ≤ m → n ≤ 9223372036854775807 → -1 ≤ j → j + 1 + lv n.toNat ≤ 1000 → Evt (fun k => cost_Level.l0 k n j) (j + 1 + lv n.toNat) := by
    intro m
    induction m using Nat.strongRecOn with
    | _ m ih =>
      intro n j hm hn hj hb
      by_cases hp : 0 < n
      · have e := lv_pos n.toNat (by omega)
        have e2 : (Int.tdiv n 4).toNat = n.toNat / 4 := by
          rw [Int.tdiv_eq_ediv_of_nonneg (by omega)]; omega
        have hb2 := lv_bd (n.toNat / 4)
        have e3 : wrap64 (Int.tdiv n 4) = Int.tdiv n 4 := w64in _ (by rw [Int.tdiv_eq_ediv_of_nonneg (by omega)]; omega)
        have e4 : wrap64 (j + 1) = j + 1 := w64in _ (by omega)
        have := ih (n.toNat / 4) (by omega) (Int.tdiv n 4) (j + 1) (by rw [e2]; exact Nat.le_refl _) (by rw [Int.tdiv_eq_ediv_of_nonneg (by omega)]; omega) (by omega) (by rw [e2]; omega)
        rw [e2] at this
        rw [show j + 1 + lv n.toNat = j + 1 + 1 + lv (n.toNat / 4) by omega]
        refine this.step (fun k => ?_)
        show (if _ then _ else _) = _
        rw [if_pos (by omega), e3, e4]
      · have e : n.toNat = 0 := by omega
        rw [e, lv_zero]
        refine (Evt.pure _).step (fun k => ?_)
        show (if _ then _ else _) = _
        rw [if_neg (by omega)]
        congr 1
        omega
  have h2 := lv_lt 32 n.toNat (by omega)
  have := key n.toNat n (-1) (Nat.le_refl _) h (by omega) (by omega)
  rwa [show (-1 : Int) + 1 + lv n.toNat = lv n.toNat by omega] at this
theorem rlevel_ev (n : Int) (h : n ≤ 9223372036854775807) : Evt (fun k => chapmanref36_Level.f k n) (lv n.toNat) := by
  have e : ∀ k n j, chapmanref36_Level.l0 k n j = cost_Level.l0 k n j := by
    intro k
    induction k with
    | zero => intros; rfl
    | succ k ih =>
      intro n j
      show (if _ then _ else _) = (if _ then _ else _)
      rw [ih]
  have := level_ev n h
  refine this.congr ⟨0, fun k _ => e k n (-1)⟩
end Go.Proofs.Ytckempgpaojljaa.P
end
section
/- What the printed functions tell, in plain terms: equality of lists, sums, sorted unions, membership. -/
namespace Go.Proofs.Ytckempgpaojljaa.P
set_option linter.unusedVariables false
set_option linter.unusedSimpArgs false
open Go.RowKit Go.Proofs.YtckempgpaojljaaW.PrintWords Go.Proofs.YtckempgpaojljaaW.PrintLast Go.Proofs.YtckempgpaojljaaW.PrintMore
theorem cdec_eq {α : Type} [DecidableEq α] {x y : α} {a b : List α} (e : x = y) : decide (x :: a = y :: b) = decide (a = b) := decide_eq_decide.2 (by rw [List.cons.injEq]; exact ⟨fun h => h.2, fun h => ⟨e, h⟩⟩)
theorem cdec_ne {α : Type} [DecidableEq α] {x y : α} {a b : List α} (e : ¬ x = y) : decide (x :: a = y :: b) = false := decide_eq_false (by rw [List.cons.injEq]; exact fun h => e h.1)
theorem ints_ev (a b : List Int) (h : a.length ≤ 1000000) : Evt (fun k => chapmanref03_Ints.f k a b) (decide (a = b)) := by
  by_cases hl : a.length = b.length
  · have key : ∀ m i : Nat, i + m = a.length → Evt (fun k => chapmanref03_Ints.l0 k a b (i : Int)) (decide (a.drop i = b.drop i)) := by
      intro m
      induction m with
      | zero =>
        intro i hi
        refine (Evt.pure _).step (fun k => ?_)
        show (if _ then _ else _) = _
        rw [if_neg (by omega), List.drop_of_length_le (by omega), List.drop_of_length_le (by omega)]
        rfl
      | succ m ih =>
        intro i hi
        have h1 : i < a.length := by omega
        have h2 : i < b.length := by omega
        have ih := ih (i + 1) (by omega)
        rw [List.drop_eq_getElem_cons h1, List.drop_eq_getElem_cons h2]
        by_cases e : a[i] = b[i]
        · rw [cdec_eq e]
          refine ih.step (fun k => ?_)
          show (if _ then _ else _) = _
          rw [if_pos (by omega), if_pos (by omega), if_pos (by omega), rdI h1, rdI h2, if_pos e, w64s (by omega)]
        · rw [cdec_ne e]
          refine (Evt.pure _).step (fun k => ?_)
          show (if _ then _ else _) = _
          rw [if_pos (by omega), if_pos (by omega), if_pos (by omega), rdI h1, rdI h2, if_neg e]
    have := key a.length 0 (by omega)
    simp only [List.drop_zero] at this
    refine this.congr ⟨0, fun k _ => ?_⟩
    show (if _ then _ else _) = _
    rw [if_pos (by omega)]
    rfl
  · rw [decide_eq_false (fun e => hl (by rw [e]))]
    refine Evt.of (fun k => ?_)
    show (if _ then _ else _) = _
    rw [if_neg (by omega)]
theorem sameGroups_ev (a b : List (List Int)) (h : a.length ≤ 1000000) (hi : ∀ x ∈ a, x.length ≤ 1000000) : Evt (fun k => chapmanref36_SameGroups.f k a b) (decide (a = b)) := by
  by_cases hl : a.length = b.length
  · have key : ∀ m i : Nat, i + m = a.length → Evt (fun k => chapmanref36_SameGroups.l0 k a b (i : Int)) (decide (a.drop i = b.drop i)) := by
      intro m
      induction m with
      | zero =>
        intro i hi
        refine (Evt.pure _).step (fun k => ?_)
        show (if _ then _ else _) = _
        rw [if_neg (by omega), List.drop_of_length_le (by omega), List.drop_of_length_le (by omega)]
        rfl
      | succ m ih =>
        intro i him
        have h1 : i < a.length := by omega
        have h2 : i < b.length := by omega
        have ih := ih (i + 1) (by omega)
        have hints := ints_ev a[i] b[i] (hi _ (List.getElem_mem h1))
        rw [List.drop_eq_getElem_cons h1, List.drop_eq_getElem_cons h2]
        by_cases e : a[i] = b[i]
        · rw [cdec_eq e]
          obtain ⟨K, hK⟩ := hints
          refine ih.step' ⟨K, fun k hk => ?_⟩
          show (if _ then _ else _) = _
          rw [if_pos (by omega), if_pos (by omega), if_pos (by omega), rdL5 h1, rdL5 h2, show chapmanref03_Ints.f k a[i] b[i] = _ from hK k hk, decide_eq_true e, Option.bind_some, if_pos rfl, w64s (by omega)]
        · rw [cdec_ne e]
          obtain ⟨K, hK⟩ := hints
          refine (Evt.pure _).step' ⟨K, fun k hk => ?_⟩
          show (if _ then _ else _) = _
          rw [if_pos (by omega), if_pos (by omega), if_pos (by omega), rdL5 h1, rdL5 h2, show chapmanref03_Ints.f k a[i] b[i] = _ from hK k hk, decide_eq_false e]
          rfl
    have := key a.length 0 (by omega)
    simp only [List.drop_zero] at this
    refine this.congr ⟨0, fun k _ => ?_⟩
    show (if _ then _ else _) = _
    rw [if_pos (by omega)]
    rfl
  · rw [decide_eq_false (fun e => hl (by rw [e]))]
    refine Evt.of (fun k => ?_)
    show (if _ then _ else _) = _
    rw [if_neg (by omega)]
theorem samePieces_ev (a b : List S43) (h : a.length ≤ 1000000) : Evt (fun k => chapmanref36_SamePieces.f k a b) (decide (a.map (fun p => (p.f0, p.f1)) = b.map fun p => (p.f0, p.f1))) := by
  by_cases hl : a.length = b.length
  · have key : ∀ m i : Nat, i + m = a.length → Evt (fun k => chapmanref36_SamePieces.l0 k a b (i : Int)) (decide ((a.drop i).map (fun p => (p.f0, p.f1)) = (b.drop i).map fun p => (p.f0, p.f1))) := by
      intro m
      induction m with
      | zero =>
        intro i hi
        refine (Evt.pure _).step (fun k => ?_)
        show (if _ then _ else _) = _
        rw [if_neg (by omega), List.drop_of_length_le (by omega), List.drop_of_length_le (by omega)]
        rfl
      | succ m ih =>
        intro i him
        have h1 : i < a.length := by omega
        have h2 : i < b.length := by omega
        have ih := ih (i + 1) (by omega)
        rw [List.drop_eq_getElem_cons h1, List.drop_eq_getElem_cons h2, List.map_cons, List.map_cons]
        by_cases e : a[i].f0 = b[i].f0 ∧ a[i].f1 = b[i].f1
        · rw [cdec_eq (Prod.ext e.1 e.2)]
          refine ih.step (fun k => ?_)
          show (if _ then _ else _) = _
          rw [if_pos (by omega), if_pos (by omega), if_pos (by omega), rd43 h1, rd43 h2, if_neg (by simp [e]), w64s (by omega)]
        · rw [cdec_ne (fun h => e ⟨congrArg Prod.fst h, congrArg Prod.snd h⟩)]
          refine (Evt.pure _).step (fun k => ?_)
          show (if _ then _ else _) = _
          rw [if_pos (by omega), if_pos (by omega), if_pos (by omega), rd43 h1, rd43 h2, if_pos (by simp; by_cases e0 : a[i].f0 = b[i].f0 <;> simp_all)]
    have := key a.length 0 (by omega)
    simp only [List.drop_zero] at this
    refine this.congr ⟨0, fun k _ => ?_⟩
    show (if _ then _ else _) = _
    rw [if_pos (by omega)]
    rfl
  · rw [decide_eq_false (fun e => hl (by have := congrArg List.length e; simpa using this))]
    refine Evt.of (fun k => ?_)
    show (if _ then _ else _) = _
    rw [if_neg (by omega)]
theorem samePieces_self (a : List S43) (h : a.length ≤ 1000000) : Evt (fun k => chapmanref36_SamePieces.f k a a) true := by
  have := samePieces_ev a a h
  rwa [decide_eq_true rfl] at this
theorem le_trans' (a b c : Int) : decide (a ≤ b) = true → decide (b ≤ c) = true → decide (a ≤ c) = true := by simp; omega
theorem le_total' (a b : Int) : (decide (a ≤ b) || decide (b ≤ a)) = true := by simp; omega
theorem sortI_perm (l : List Int) : (sortI l).Perm l := List.mergeSort_perm _ _
theorem sortI_sorted (l : List Int) : (sortI l).Pairwise fun x y => decide (x ≤ y) = true := List.pairwise_mergeSort le_trans' le_total' l
end Go.Proofs.Ytckempgpaojljaa.P
end
section
/- The reference's choice of four clusters, and one step of its loop, against the program's step. -/
namespace Go.Proofs.Ytckempgpaojljaa.P
set_option linter.unusedVariables false
set_option linter.unusedSimpArgs false
open Go.RowKit Go.Proofs.YtckempgpaojljaaW.PrintWords Go.Proofs.YtckempgpaojljaaW.PrintLast Go.Proofs.YtckempgpaojljaaW.PrintMore
structure InvC (l : List S43) (cs : List (List Int × Int)) : Prop where
  sum : ∀ c ∈ cs, c.2 = sumG (fun i => (rd_T43 l i).f0) c.1
  idx : ∀ c ∈ cs, ∀ i ∈ c.1, 0 ≤ i ∧ i < l.length
def refC (cs : List (List Int × Int)) : List (List Int) := cs.map fun c => sortI c.1
theorem refC_length (cs : List (List Int × Int)) : (refC cs).length = cs.length := by simp [refC]
theorem perm_sum {a b : List Int} (h : a.Perm b) : a.sum = b.sum := by
  induction h with
  | nil => rfl
  | cons x _ ih => rw [List.sum_cons, List.sum_cons, ih]
  | swap x y l => simp only [List.sum_cons]; omega
  | trans _ _ h1 h2 => exact h1.trans h2
theorem sumG_perm {f : Int → Int} {a b : List Int} (h : a.Perm b) : sumG f a = sumG f b := by
  unfold sumG
  exact perm_sum (h.map f)
theorem sumG_append (f : Int → Int) (a b : List Int) : sumG f (a ++ b) = sumG f a + sumG f b := by simp [sumG]
def fourC (cs : List (List Int × Int)) : List Nat := if idx4 (cntC cs) < 0 then [] else (posC cs (idx4 (cntC cs)) cs.length).take 4
end Go.Proofs.Ytckempgpaojljaa.P
end
section
/- One step of the reference's loop over clusters, against the program's step. -/
namespace Go.Proofs.Ytckempgpaojljaa.P
set_option linter.unusedVariables false
set_option linter.unusedSimpArgs false
open Go.RowKit Go.Proofs.YtckempgpaojljaaW.PrintWords Go.Proofs.YtckempgpaojljaaW.PrintLast Go.Proofs.YtckempgpaojljaaW.PrintMore
def nextP {α : Type} (f : List Nat) (x : α) (G : List α) : Nat → List α
  | 0 => []
  | k + 1 => nextP f x G k ++ (if some k = f.head? then [x] else []) ++ (if k ∈ f then [] else (G[k]?).toList)
theorem nextP_far {α : Type} (f : List Nat) (x : α) (G : List α) (s t : Nat) (hs : ∀ k, s ≤ k → k < s + t → k ∉ f) (hl : s + t ≤ G.length) : nextP f x G (s + t) = nextP f x G s ++ (G.drop s).take t := by
  induction t with
  | zero => simp
  | succ t ih =>
    have h1 := ih (fun k h1 h2 => hs k h1 (by omega)) (by omega)
    have h2 := hs (s + t) (by omega) (by omega)
    have h3 : ¬ some (s + t) = f.head? := fun e => h2 (List.mem_of_mem_head? (by rw [← e]; rfl))
    rw [← Nat.add_assoc]
    show nextP f x G (s + t) ++ _ ++ _ = _
    rw [if_neg h3, if_neg h2, h1, List.append_nil, List.append_assoc, List.take_add_one, List.getElem?_drop]
theorem split4 {α : Type} (cs : List α) (i0 i1 i2 i3 : Nat) (h0 : i0 < i1) (h1 : i1 < i2) (h2 : i2 < i3) (h3 : i3 < cs.length) :
    ∃ (A B C D E : List α) (c0 c1 c2 c3 : α), cs = A ++ c0 :: (B ++ c1 :: (C ++ c2 :: (D ++ c3 :: E))) ∧ A.length = i0 ∧ A.length + 1 + B.length = i1 ∧ A.length + 1 + B.length + 1 + C.length = i2 ∧ A.length + 1 + B.length + 1 + C.length + 1 + D.length = i3 := by
  refine ⟨cs.take i0, (cs.drop (i0 + 1)).take (i1 - i0 - 1), (cs.drop (i1 + 1)).take (i2 - i1 - 1), (cs.drop (i2 + 1)).take (i3 - i2 - 1), cs.drop (i3 + 1), cs[i0], cs[i1], cs[i2], cs[i3], ?_, ?_, ?_, ?_, ?_⟩
  · have key : ∀ (i j : Nat) (hij : i < j) (hj : j < cs.length), cs.drop (i + 1) = (cs.drop (i + 1)).take (j - i - 1) ++ cs[j] :: cs.drop (j + 1) := fun i j hij hj => by
      have e : cs.drop j = (cs.drop (i + 1)).drop (j - i - 1) := by rw [List.drop_drop]; congr 1; omega
      rw [← List.drop_eq_getElem_cons hj, e, List.take_append_drop]
    rw [← key i2 i3 h2 h3, ← List.drop_eq_getElem_cons (by omega : i2 < cs.length)]
    rw [List.drop_eq_getElem_cons (by omega : i2 < cs.length), ← key i1 i2 h1 (by omega), ← key i0 i1 h0 (by omega), ← List.drop_eq_getElem_cons (by omega : i0 < cs.length), List.take_append_drop]
  all_goals simp
  all_goals omega
theorem mergeC_at (A B R : List (List Int × Int)) (c d : List Int × Int) : mergeC (A ++ c :: (B ++ d :: R)) A.length (A.length + 1 + B.length) = A ++ (c.1 ++ d.1, c.2 + d.2) :: (B ++ R) := by
  have e1 : (A ++ c :: (B ++ d :: R)).getD A.length ([], 0) = c := by simp [List.getD_eq_getElem?_getD]
  have e2 : (A ++ c :: (B ++ d :: R)).getD (A.length + 1 + B.length) ([], 0) = d := by
    rw [List.getD_eq_getElem?_getD, List.getElem?_append_right (by omega), show A.length + 1 + B.length - A.length = B.length + 1 by omega, List.getElem?_cons_succ, List.getElem?_append_right (Nat.le_refl _), Nat.sub_self]
    rfl
  unfold mergeC
  rw [e1, e2, List.set_append_right _ _ (Nat.le_refl _), Nat.sub_self, List.set_cons_zero, List.eraseIdx_append_of_length_le (by omega), show A.length + 1 + B.length - A.length = B.length + 1 by omega, List.eraseIdx_cons_succ, List.eraseIdx_append_of_length_le (Nat.le_refl _), Nat.sub_self, List.eraseIdx_cons_zero]
theorem seg_at {α : Type} (P Q R : List α) {G : List α} (h : G = P ++ (Q ++ R)) {n m : Nat} (hn : n = P.length) (hm : m = Q.length) : (G.drop n).take m = Q := by
  subst h hn hm
  rw [List.drop_left, List.take_left]
def allC (cs : List (List Int × Int)) : List Nat → List Int
  | [] => []
  | i :: is => (cs.getD i ([], 0)).1 ++ allC cs is
theorem step_ref (cs cs' : List (List Int × Int)) (h : stepC cs = some cs') : ∃ i0 i1 i2 i3, fourC cs = [i0, i1, i2, i3] ∧ i0 < i1 ∧ i1 < i2 ∧ i2 < i3 ∧ i3 < cs.length ∧ refC cs' = nextP (fourC cs) (sortI (allC cs (fourC cs))) (refC cs) cs.length := by
  unfold stepC at h
  split at h
  · exact absurd h (by simp)
  · rename_i hn
    have hf : fourC cs = (posC cs (idx4 (cntC cs)) cs.length).take 4 := by unfold fourC; rw [if_neg hn]
    have hso : (fourC cs).Pairwise (· < ·) := by rw [hf]; exact (posC_sorted cs _ cs.length).sublist (List.take_sublist _ _)
    have hmem : ∀ i, i ∈ fourC cs → i < cs.length := fun i hi => by
      rw [hf] at hi
      exact (posC_mem (List.mem_of_mem_take hi)).1
    rw [← hf] at h
    generalize fourC cs = F at *
    match F, h with
    | [i0, i1, i2, i3], h =>
      injection h with h
      simp only [List.pairwise_cons, List.mem_cons, List.not_mem_nil, or_false, forall_eq_or_imp, forall_eq] at hso
      have h3 := hmem i3 (by simp)
      obtain ⟨⟨a1, a2, a3⟩, ⟨b1, b2⟩, b3, _⟩ := hso
      refine ⟨i0, i1, i2, i3, rfl, a1, b1, b3, h3, ?_⟩
      obtain ⟨A, B, C, D, E, c0, c1, c2, c3, hcs, l0, l1, l2, l3⟩ := split4 cs i0 i1 i2 i3 a1 b1 b3 h3
      have g0 : cs.getD i0 ([], 0) = c0 := by rw [hcs, ← l0]; simp [List.getD_eq_getElem?_getD]
      have g1 : cs.getD i1 ([], 0) = c1 := by
        rw [hcs, ← l1, List.getD_eq_getElem?_getD, List.getElem?_append_right (by omega), show A.length + 1 + B.length - A.length = B.length + 1 by omega, List.getElem?_cons_succ, List.getElem?_append_right (Nat.le_refl _), Nat.sub_self]
        rfl
      have g2 : cs.getD i2 ([], 0) = c2 := by
        rw [hcs, ← l2, List.getD_eq_getElem?_getD, List.getElem?_append_right (by omega), show A.length + 1 + B.length + 1 + C.length - A.length = B.length + 1 + C.length + 1 by omega, List.getElem?_cons_succ, List.getElem?_append_right (by omega), show B.length + 1 + C.length - B.length = C.length + 1 by omega, List.getElem?_cons_succ, List.getElem?_append_right (by omega), Nat.sub_self]
        rfl
      have g3 : cs.getD i3 ([], 0) = c3 := by
        rw [hcs, ← l3, List.getD_eq_getElem?_getD, List.getElem?_append_right (by omega), show A.length + 1 + B.length + 1 + C.length + 1 + D.length - A.length = B.length + 1 + C.length + 1 + D.length + 1 by omega, List.getElem?_cons_succ, List.getElem?_append_right (by omega), show B.length + 1 + C.length + 1 + D.length - B.length = C.length + 1 + D.length + 1 by omega, List.getElem?_cons_succ, List.getElem?_append_right (by omega), show C.length + 1 + D.length - C.length = D.length + 1 by omega, List.getElem?_cons_succ, List.getElem?_append_right (by omega), Nat.sub_self]
        rfl
      have m1 : mergeC cs i0 i1 = A ++ (c0.1 ++ c1.1, c0.2 + c1.2) :: ((B ++ C) ++ c2 :: (D ++ c3 :: E)) := by
        rw [hcs, ← l0, ← l1, mergeC_at, List.append_assoc]
      have m2 : mergeC (mergeC cs i0 i1) i0 (i2 - 1) = A ++ (c0.1 ++ c1.1 ++ c2.1, c0.2 + c1.2 + c2.2) :: (((B ++ C) ++ D) ++ c3 :: E) := by
        rw [m1, ← l0, show i2 - 1 = A.length + 1 + (B ++ C).length by rw [List.length_append]; omega, mergeC_at, List.append_assoc (B ++ C)]
      have m3 : mergeC (mergeC (mergeC cs i0 i1) i0 (i2 - 1)) i0 (i3 - 2) = A ++ (c0.1 ++ c1.1 ++ c2.1 ++ c3.1, c0.2 + c1.2 + c2.2 + c3.2) :: (((B ++ C) ++ D) ++ E) := by
        rw [m2, ← l0, show i3 - 2 = A.length + 1 + ((B ++ C) ++ D).length by rw [List.length_append, List.length_append]; omega, mergeC_at]
      rw [← h, m3]
      have hall : allC cs [i0, i1, i2, i3] = c0.1 ++ c1.1 ++ c2.1 ++ c3.1 := by
        show (cs.getD i0 ([], 0)).1 ++ ((cs.getD i1 ([], 0)).1 ++ ((cs.getD i2 ([], 0)).1 ++ ((cs.getD i3 ([], 0)).1 ++ []))) = _
        rw [g0, g1, g2, g3, List.append_nil, List.append_assoc, List.append_assoc]
      rw [hall]
      generalize hX : sortI (c0.1 ++ c1.1 ++ c2.1 ++ c3.1) = X
      have hr : refC cs = refC A ++ sortI c0.1 :: (refC B ++ sortI c1.1 :: (refC C ++ sortI c2.1 :: (refC D ++ sortI c3.1 :: refC E))) := by rw [hcs]; simp [refC]
      have hcl : cs.length = i3 + 1 + E.length := by rw [hcs]; simp; omega
      have rl := refC_length
      obtain ⟨f, hf4⟩ : ∃ f, f = [i0, i1, i2, i3] := ⟨_, rfl⟩
      rw [← hf4]
      have hhd : f.head? = some i0 := by rw [hf4]; rfl
      have nf : ∀ k, k ≠ i0 → k ≠ i1 → k ≠ i2 → k ≠ i3 → k ∉ f := fun k e0 e1 e2 e3 => by rw [hf4]; simp [e0, e1, e2, e3]
      have yf : i0 ∈ f ∧ i1 ∈ f ∧ i2 ∈ f ∧ i3 ∈ f := by rw [hf4]; simp
      have s0 := nextP_far f X (refC cs) 0 i0 (fun k _ h2 => nf k (by omega) (by omega) (by omega) (by omega)) (by rw [rl]; omega)
      have s1 := nextP_far f X (refC cs) (i0 + 1) B.length (fun k _ h2 => nf k (by omega) (by omega) (by omega) (by omega)) (by rw [rl]; omega)
      have s2 := nextP_far f X (refC cs) (i1 + 1) C.length (fun k _ h2 => nf k (by omega) (by omega) (by omega) (by omega)) (by rw [rl]; omega)
      have s3 := nextP_far f X (refC cs) (i2 + 1) D.length (fun k _ h2 => nf k (by omega) (by omega) (by omega) (by omega)) (by rw [rl]; omega)
      have s4 := nextP_far f X (refC cs) (i3 + 1) E.length (fun k _ h2 => nf k (by omega) (by omega) (by omega) (by omega)) (by rw [rl]; omega)
      have t0 : nextP f X (refC cs) (i0 + 1) = nextP f X (refC cs) i0 ++ [X] := by
        show _ ++ (if _ then _ else _) ++ (if _ then _ else _) = _
        rw [hhd, if_pos rfl, if_pos yf.1, List.append_nil]
      have tn : ∀ k, k ≠ i0 → k ∈ f → nextP f X (refC cs) (k + 1) = nextP f X (refC cs) k := fun k hk hm => by
        show _ ++ (if _ then _ else _) ++ (if _ then _ else _) = _
        rw [hhd, if_neg (by simp [hk]), if_pos hm, List.append_nil, List.append_nil]
      have t1 := tn i1 (by omega) yf.2.1
      have t2 := tn i2 (by omega) yf.2.2.1
      have t3 := tn i3 (by omega) yf.2.2.2
      have v3 : nextP f X (refC cs) i3 = nextP f X (refC cs) i2 ++ ((refC cs).drop (i2 + 1)).take D.length := by
        rw [show i3 = i2 + 1 + D.length by omega, s3, t2]
      have v2 : nextP f X (refC cs) i2 = nextP f X (refC cs) i1 ++ ((refC cs).drop (i1 + 1)).take C.length := by
        rw [show i2 = i1 + 1 + C.length by omega, s2, t1]
      have v1 : nextP f X (refC cs) i1 = nextP f X (refC cs) i0 ++ [X] ++ ((refC cs).drop (i0 + 1)).take B.length := by
        rw [show i1 = i0 + 1 + B.length by omega, s1, t0]
      rw [Nat.zero_add] at s0
      rw [hcl, s4, t3, v3, v2, v1, s0]
      have d0 : ((refC cs).drop 0).take i0 = refC A := seg_at [] (refC A) _ hr rfl (by rw [rl, l0])
      have d1 : ((refC cs).drop (i0 + 1)).take B.length = refC B := seg_at (refC A ++ [sortI c0.1]) (refC B) (sortI c1.1 :: (refC C ++ sortI c2.1 :: (refC D ++ sortI c3.1 :: refC E))) (by rw [hr]; simp) (by simp [rl]; omega) (by rw [rl])
      have d2 : ((refC cs).drop (i1 + 1)).take C.length = refC C := seg_at (refC A ++ sortI c0.1 :: (refC B ++ [sortI c1.1])) (refC C) (sortI c2.1 :: (refC D ++ sortI c3.1 :: refC E)) (by rw [hr]; simp) (by simp [rl]; omega) (by rw [rl])
      have d3 : ((refC cs).drop (i2 + 1)).take D.length = refC D := seg_at (refC A ++ sortI c0.1 :: (refC B ++ sortI c1.1 :: (refC C ++ [sortI c2.1]))) (refC D) (sortI c3.1 :: refC E) (by rw [hr]; simp) (by simp [rl]; omega) (by rw [rl])
      have d4 : ((refC cs).drop (i3 + 1)).take E.length = refC E := seg_at (refC A ++ sortI c0.1 :: (refC B ++ sortI c1.1 :: (refC C ++ sortI c2.1 :: (refC D ++ [sortI c3.1])))) (refC E) [] (by rw [hr]; simp) (by simp [rl]; omega) (by rw [rl])
      rw [d0, d1, d2, d3, d4]
      simp only [List.append_assoc] at hX
      simp [refC, nextP, hX]
end Go.Proofs.Ytckempgpaojljaa.P
end
section
/- Examples: what is chosen of a few fixed lists. -/
namespace Go.Proofs.Ytckempgpaojljaa.P
set_option linter.unusedVariables false
set_option linter.unusedSimpArgs false
open Go.RowKit Go.Proofs.YtckempgpaojljaaW.PrintWords Go.Proofs.YtckempgpaojljaaW.PrintLast Go.Proofs.YtckempgpaojljaaW.PrintMore
theorem lv_1 : lv 1 = 0 := by rw [lv_pos 1 (by decide), lv_zero]; rfl
theorem lv_3 : lv 3 = 0 := by rw [lv_pos 3 (by decide), lv_zero]; rfl
theorem lv_4 : lv 4 = 1 := by rw [lv_pos 4 (by decide), lv_1]; rfl
theorem lv_16 : lv 16 = 2 := by rw [lv_pos 16 (by decide), lv_4]; rfl
theorem sortI_of {l : List Int} (h : l.Pairwise fun x y => decide (x ≤ y) = true) : sortI l = l := List.mergeSort_of_pairwise h
set_option maxRecDepth 100000 in
theorem start5 : startC [⟨1, 100⟩, ⟨1, 100⟩, ⟨1, 100⟩, ⟨1, 100⟩, ⟨1, 100⟩] = [([0], 1), ([1], 1), ([2], 1), ([3], 1), ([4], 1)] := by rfl
set_option maxRecDepth 100000 in
theorem step5 : stepC [([0], 1), ([1], 1), ([2], 1), ([3], 1), ([4], 1)] = some [([0, 1, 2, 3], 4), ([4], 1)] := by
  have h1 : cntC [([0], 1), ([1], 1), ([2], 1), ([3], 1), ([4], 1)] = [5, 0, 0, 0, 0, 0, 0, 0, 0, 0, 0, 0, 0, 0, 0, 0] := by
    simp [cntC, lv_1, List.range_succ]
  have h2 : posC [([0], 1), ([1], 1), ([2], 1), ([3], 1), ([4], 1)] 0 5 = [0, 1, 2, 3, 4] := by
    simp [posC, lv_1, List.range_succ]
  have h3 : idx4 [5, 0, 0, 0, 0, 0, 0, 0, 0, 0, 0, 0, 0, 0, 0, 0] = 0 := by rfl
  unfold stepC
  rw [h1, h3]
  rw [if_neg (by decide)]
  rw [show [([0], 1), ([1], 1), ([2], 1), ([3], 1), (([4] : List Int), (1 : Int))].length = 5 from rfl, h2]
  rfl
theorem step5b : stepC [([0, 1, 2, 3], 4), ([4], 1)] = none := by
  have h1 : cntC [([0, 1, 2, 3], 4), ([4], 1)] = [1, 1, 0, 0, 0, 0, 0, 0, 0, 0, 0, 0, 0, 0, 0, 0] := by
    simp [cntC, lv_1, lv_4, List.range_succ]
  unfold stepC
  rw [h1]
  rfl
theorem choose5 : choose [⟨1, 100⟩, ⟨1, 100⟩, ⟨1, 100⟩, ⟨1, 100⟩, ⟨1, 100⟩] = [[0, 1, 2, 3]] := by
  unfold choose
  rw [start5]
  show groupsC (iterC 5 _) = _
  rw [iterC, step5]
  show groupsC (iterC 4 _) = _
  rw [iterC, step5b]
  show [sortI [0, 1, 2, 3]] = _
  rw [sortI_of (by decide)]
theorem step4 : stepC [([0], 1), ([1], 1), ([2], 1), ([3], 1)] = some [([0, 1, 2, 3], 4)] := by
  have h1 : cntC [([0], 1), ([1], 1), ([2], 1), ([3], 1)] = [4, 0, 0, 0, 0, 0, 0, 0, 0, 0, 0, 0, 0, 0, 0, 0] := by
    simp [cntC, lv_1, List.range_succ]
  have h2 : posC [([0], 1), ([1], 1), ([2], 1), ([3], 1)] 0 4 = [0, 1, 2, 3] := by
    simp [posC, lv_1, List.range_succ]
  have h3 : idx4 [4, 0, 0, 0, 0, 0, 0, 0, 0, 0, 0, 0, 0, 0, 0, 0] = 0 := by rfl
  unfold stepC
  rw [h1, h3]
  rw [if_neg (by decide)]
  rw [show [([0], 1), ([1], 1), ([2], 1), (([3] : List Int), (1 : Int))].length = 4 from rfl, h2]
  rfl
theorem step4b : stepC [([0, 1, 2, 3], 4)] = none := by
  have h1 : cntC [([0, 1, 2, 3], 4)] = [0, 1, 0, 0, 0, 0, 0, 0, 0, 0, 0, 0, 0, 0, 0, 0] := by
    simp [cntC, lv_4, List.range_succ]
  unfold stepC
  rw [h1]
  rfl
theorem start4 : startC [⟨1, 100⟩, ⟨1, 100⟩, ⟨1, 100⟩, ⟨1, 100⟩] = [([0], 1), ([1], 1), ([2], 1), ([3], 1)] := by rfl
theorem choose4 : choose [⟨1, 100⟩, ⟨1, 100⟩, ⟨1, 100⟩, ⟨1, 100⟩] = [[0, 1, 2, 3]] := by
  unfold choose
  rw [start4]
  show groupsC (iterC 4 _) = _
  rw [iterC, step4]
  show groupsC (iterC 3 _) = _
  rw [iterC, step4b]
  show [sortI [0, 1, 2, 3]] = _
  rw [sortI_of (by decide)]
theorem start7 : startC [⟨4, 100⟩, ⟨4, 100⟩, ⟨4, 100⟩, ⟨1, 100⟩, ⟨1, 100⟩, ⟨1, 100⟩, ⟨1, 100⟩] = [([0], 4), ([1], 4), ([2], 4), ([3], 1), ([4], 1), ([5], 1), ([6], 1)] := by rfl
set_option maxRecDepth 100000 in
theorem step7 : stepC [([0], 4), ([1], 4), ([2], 4), ([3], 1), ([4], 1), ([5], 1), ([6], 1)] = some [([0], 4), ([1], 4), ([2], 4), ([3, 4, 5, 6], 4)] := by
  have h1 : cntC [([0], 4), ([1], 4), ([2], 4), ([3], 1), ([4], 1), ([5], 1), ([6], 1)] = [4, 3, 0, 0, 0, 0, 0, 0, 0, 0, 0, 0, 0, 0, 0, 0] := by
    simp [cntC, lv_1, lv_4, List.range_succ]
  have h2 : posC [([0], 4), ([1], 4), ([2], 4), ([3], 1), ([4], 1), ([5], 1), ([6], 1)] 0 7 = [3, 4, 5, 6] := by
    simp [posC, lv_1, lv_4, List.range_succ]
  have h3 : idx4 [4, 3, 0, 0, 0, 0, 0, 0, 0, 0, 0, 0, 0, 0, 0, 0] = 0 := by rfl
  unfold stepC
  rw [h1, h3]
  rw [if_neg (by decide)]
  rw [show [([0], 4), ([1], 4), ([2], 4), ([3], 1), ([4], 1), ([5], 1), (([6] : List Int), (1 : Int))].length = 7 from rfl, h2]
  rfl
theorem step7b : stepC [([0], 4), ([1], 4), ([2], 4), ([3, 4, 5, 6], 4)] = some [([0, 1, 2, 3, 4, 5, 6], 16)] := by
  have h1 : cntC [([0], 4), ([1], 4), ([2], 4), ([3, 4, 5, 6], 4)] = [0, 4, 0, 0, 0, 0, 0, 0, 0, 0, 0, 0, 0, 0, 0, 0] := by
    simp [cntC, lv_4, List.range_succ]
  have h2 : posC [([0], 4), ([1], 4), ([2], 4), ([3, 4, 5, 6], 4)] 1 4 = [0, 1, 2, 3] := by
    simp [posC, lv_4, List.range_succ]
  have h3 : idx4 [0, 4, 0, 0, 0, 0, 0, 0, 0, 0, 0, 0, 0, 0, 0, 0] = 1 := by rfl
  unfold stepC
  rw [h1, h3]
  rw [if_neg (by decide)]
  rw [show [([0], 4), ([1], 4), ([2], 4), (([3, 4, 5, 6] : List Int), (4 : Int))].length = 4 from rfl, h2]
  rfl
theorem step7c : stepC [([0, 1, 2, 3, 4, 5, 6], 16)] = none := by
  have h1 : cntC [([0, 1, 2, 3, 4, 5, 6], 16)] = [0, 0, 1, 0, 0, 0, 0, 0, 0, 0, 0, 0, 0, 0, 0, 0] := by
    simp [cntC, lv_16, List.range_succ]
  unfold stepC
  rw [h1]
  rfl
theorem choose7 : choose [⟨4, 100⟩, ⟨4, 100⟩, ⟨4, 100⟩, ⟨1, 100⟩, ⟨1, 100⟩, ⟨1, 100⟩, ⟨1, 100⟩] = [[0, 1, 2, 3, 4, 5, 6]] := by
  unfold choose
  rw [start7]
  show groupsC (iterC 7 _) = _
  rw [iterC, step7]
  show groupsC (iterC 6 _) = _
  rw [iterC, step7b]
  show groupsC (iterC 5 _) = _
  rw [iterC, step7c]
  show [sortI [0, 1, 2, 3, 4, 5, 6]] = _
  rw [sortI_of (by decide)]
theorem units_ev (l : List Int) (h : l.length ≤ 1000000) : Evt (fun k => chapmanlaw36_units.f k l) (l.map fun x => ⟨x, 100⟩) := by
  refine Evt.loop (fun i k => chapmanlaw36_units.l0 k l ((l.take i).map fun x => ⟨x, 100⟩) (i : Int)) l.length ?_ (fun i hi k => ?_)
  · refine (Evt.pure _).step (fun k => ?_)
    show (if _ then _ else _) = _
    rw [if_neg (by omega), List.take_length]
  · show (if _ then _ else _) = _
    rw [if_pos (by omega), if_pos (by omega), if_pos (by rw [List.length_map, List.length_take]; omega), w64s (by omega), rdI hi, map_take_succ _ _ hi]
def chosenL (l : List S43) : List (List Int) × List S43 × Int × Int := if validL (pcs l) then (choose (pcs l), [], 0, 0) else ([], [], 0, 1)
def readL (l : List S43) : List (List Int) × List S43 × Int × Int := if validL (pcs l) then ([], [], readN (pcs l), 0) else ([], [], 0, 1)
def mergeL (l : List S43) (g : List Int) : List (List Int) × List S43 × Int × Int := if validL (pcs l) && okG l.length g then ([], [], mergeN (pcs l) g, 0) else ([], [], 0, 1)
def worthR (l : List S43) (a : Int) : List (List Int) × List S43 × Int × Int := if validL (pcs l) && (decide (0 ≤ a) && decide (a ≤ 1000000000)) then (worthL (pcs l) a, [], 0, 0) else ([], [], 0, 1)
def afterR (l : List S43) (G : List (List Int)) : List (List Int) × List S43 × Int × Int := match (if validL (pcs l) then afterL (pcs l) G else none) with | some out => ([], unp out, 0, 0) | none => ([], [], 0, 1)
theorem chosen_ev (l : List S43) (h : l.length ≤ 1000000) : Evt (fun k => chapmanlaw36_chosen.f k l) (chosenL l) := by
  refine (pieces_ev l h).bind (h := fun k t110 => ((cost_Choose.f t110).bind fun bt113 => (some (bt113.1, ([] : List (S43)), 0, bt113.2)))) ?_
  refine Evt.of (fun k => ?_)
  unfold chosenL cost_Choose.f
  split <;> rfl
theorem read_ev (l : List S43) (h : l.length ≤ 1000000) : Evt (fun k => chapmanlaw36_read.f k l) (readL l) := by
  refine (pieces_ev l h).bind (h := fun k t118 => ((cost_Read.f t118).bind fun bt121 => (some (([] : List (List Int)), ([] : List (S43)), bt121.1, bt121.2)))) ?_
  refine Evt.of (fun k => ?_)
  unfold readL cost_Read.f
  split <;> rfl
theorem merge_ev (l : List S43) (g : List Int) (h : l.length ≤ 1000000) : Evt (fun k => chapmanlaw36_merge.f k l g) (mergeL l g) := by
  refine (pieces_ev l h).bind (h := fun k t138 => ((cost_Merge.f t138 g).bind fun bt141 => (some (([] : List (List Int)), ([] : List (S43)), bt141.1, bt141.2)))) ?_
  refine Evt.of (fun k => ?_)
  unfold mergeL cost_Merge.f
  rw [pcs_length]
  split <;> rfl
theorem worth_ev (l : List S43) (a : Int) (h : l.length ≤ 1000000) : Evt (fun k => chapmanlaw36_worth.f k l a) (worthR l a) := by
  refine (pieces_ev l h).bind (h := fun k t144 => ((cost_Worth.f t144 a).bind fun bt147 => (some (bt147.1, ([] : List (S43)), 0, bt147.2)))) ?_
  refine Evt.of (fun k => ?_)
  unfold worthR cost_Worth.f
  split <;> rfl
theorem after_loop (m : List S59) (e : Int) (h : m.length ≤ 1000000) : Evt (fun k => chapmanlaw36_after.l0 k m 0 [] 0 e) ([], unp m, 0, e) := by
  refine Evt.loop (fun i k => chapmanlaw36_after.l0 k m (i : Int) ((m.take i).map fun p => ⟨p.f0, p.f1⟩) 0 e) m.length ?_ (fun i hi k => ?_)
  · refine (Evt.pure _).step (fun k => ?_)
    show (if _ then _ else _) = _
    rw [if_neg (by omega), List.take_length]
    rfl
  · show (if _ then _ else _) = _
    rw [if_pos (by omega), if_pos (by omega), if_pos (by rw [List.length_map, List.length_take]; omega), w64s (by omega), rd59 hi, map_take_succ _ _ hi]
theorem afterL_len {l : List S59} {G : List (List Int)} {out : List S59} (h : afterL l G = some out) : out.length ≤ l.length := by
  unfold afterL at h
  obtain ⟨ow, _, rfl⟩ := Option.map_eq_some_iff.1 h
  exact aftK_len l ow l.length
theorem after_ev (l : List S43) (G : List (List Int)) (h : l.length ≤ 1000000) : Evt (fun k => chapmanlaw36_after.f k l G) (afterR l G) := by
  refine (pieces_ev l h).bind (h := fun k t124 => ((cost_After.f t124 G).bind fun bt127 => (chapmanlaw36_after.l0 k bt127.1 0 ([] : List (S43)) 0 bt127.2))) ?_
  unfold afterR cost_After.f
  cases hx : (if validL (pcs l) = true then afterL (pcs l) G else none) with
  | none => exact after_loop [] 1 (by simp)
  | some out =>
    have : out.length ≤ 1000000 := by
      split at hx
      · have := afterL_len hx
        rw [pcs_length] at this
        omega
      · cases hx
    exact after_loop out 0 this
end Go.Proofs.Ytckempgpaojljaa.P
end
section
/- The contract of chapmanref36.clusters. -/
namespace Go.Proofs.Ytckempgpaojljaa.P
set_option linter.unusedVariables false
set_option linter.unusedSimpArgs false
open Go.RowKit Go.Proofs.YtckempgpaojljaaW.PrintWords Go.Proofs.YtckempgpaojljaaW.PrintLast Go.Proofs.YtckempgpaojljaaW.PrintMore
theorem InvC.merge {l : List S43} {cs : List (List Int × Int)} (h : InvC l cs) (i j : Nat) (hi : i < cs.length) (hj : j < cs.length) : InvC l (mergeC cs i j) := by
  have hm : ∀ c ∈ mergeC cs i j, c ∈ cs ∨ c = ((cs.getD i ([], 0)).1 ++ (cs.getD j ([], 0)).1, (cs.getD i ([], 0)).2 + (cs.getD j ([], 0)).2) := fun c hc => List.mem_or_eq_of_mem_set (List.mem_of_mem_eraseIdx hc)
  refine ⟨fun c hc => ?_, fun c hc k hk => ?_⟩
  · rcases hm c hc with e | e
    · exact h.sum c e
    · rw [e]
      show _ + _ = sumG _ (_ ++ _)
      rw [sumG_append, h.sum _ (getD_mem cs i _ hi), h.sum _ (getD_mem cs j _ hj)]
  · rcases hm c hc with e | e
    · exact h.idx c e k hk
    · rw [e] at hk
      rcases List.mem_append.1 hk with hk | hk
      · exact h.idx _ (getD_mem cs i _ hi) k hk
      · exact h.idx _ (getD_mem cs j _ hj) k hk
theorem InvC.step {l : List S43} {cs cs' : List (List Int × Int)} (h : InvC l cs) (hs : stepC cs = some cs') : InvC l cs' := by
  obtain ⟨i0, i1, i2, i3, hf, h0, h1, h2, h3, _⟩ := step_ref cs cs' hs
  unfold stepC at hs
  split at hs
  · exact absurd hs (by simp)
  · rename_i hn
    have hf2 : fourC cs = (posC cs (idx4 (cntC cs)) cs.length).take 4 := by unfold fourC; rw [if_neg hn]
    rw [← hf2, hf] at hs
    injection hs with hs
    rw [← hs]
    have l1 := mergeC_length cs i0 i1 (by omega)
    have k1 := h.merge i0 i1 (by omega) (by omega)
    have l2 := mergeC_length (mergeC cs i0 i1) i0 (i2 - 1) (by omega)
    have k2 := k1.merge i0 (i2 - 1) (by omega) (by omega)
    exact k2.merge i0 (i3 - 2) (by omega) (by omega)
theorem InvC.start (l : List S43) : InvC l (startC (pcs l)) := by
  refine ⟨fun c hc => ?_, fun c hc k hk => ?_⟩
  · obtain ⟨q, hq, rfl⟩ := List.mem_map.1 hc
    obtain ⟨p, i⟩ := q
    rw [List.mem_zipIdx_iff_getElem?] at hq
    simp only [pcs, List.getElem?_map, Option.map_eq_some_iff] at hq
    obtain ⟨x, hx, e⟩ := hq
    subst e
    simp [sumG, rd_T43, List.getD_eq_getElem?_getD, hx]
  · obtain ⟨q, hq, rfl⟩ := List.mem_map.1 hc
    obtain ⟨p, i⟩ := q
    rw [List.mem_zipIdx_iff_getElem?] at hq
    simp only [pcs, List.getElem?_map, Option.map_eq_some_iff] at hq
    obtain ⟨x, hx, _⟩ := hq
    have := (List.getElem?_eq_some_iff.1 hx).1
    simp at hk
    subst hk
    simp
    omega
theorem drawn_below {W W' : World} (h : Drawn0 W W') : Below W.heap.size W W' := by
  obtain ⟨m, rfl⟩ := h
  exact pw_below_drewN (Below.refl _ _) m
end Go.Proofs.Ytckempgpaojljaa.P
end
section
/- Clusters part the indices; what After makes of the groups that are chosen. -/
namespace Go.Proofs.Ytckempgpaojljaa.P
set_option linter.unusedVariables false
set_option linter.unusedSimpArgs false
open Go.RowKit Go.Proofs.YtckempgpaojljaaW.PrintWords Go.Proofs.YtckempgpaojljaaW.PrintLast Go.Proofs.YtckempgpaojljaaW.PrintMore
def hdC (c : List Int × Int) : Int := c.1.headD 0
def ixs (n : Nat) : List Int := (List.range n).map fun (i : Nat) => (i : Int)
structure PartC (n : Nat) (cs : List (List Int × Int)) : Prop where
  ne : ∀ c ∈ cs, c.1 ≠ []
  min : ∀ c ∈ cs, ∀ x ∈ c.1, hdC c ≤ x
  heads : (cs.map hdC).Pairwise (· < ·)
  perm : (cs.flatMap fun c => c.1).Perm (ixs n)
theorem split2 {α : Type} (cs : List α) (i j : Nat) (hij : i < j) (hj : j < cs.length) : ∃ (A B R : List α) (c d : α), cs = A ++ c :: (B ++ d :: R) ∧ A.length = i ∧ A.length + 1 + B.length = j := by
  refine ⟨cs.take i, (cs.drop (i + 1)).take (j - i - 1), cs.drop (j + 1), cs[i], cs[j], ?_, ?_, ?_⟩
  · have e : cs.drop j = (cs.drop (i + 1)).drop (j - i - 1) := by rw [List.drop_drop]; congr 1; omega
    rw [← List.drop_eq_getElem_cons hj, e, List.take_append_drop, ← List.drop_eq_getElem_cons (by omega), List.take_append_drop]
  · simp; omega
  · simp; omega
theorem PartC.merge {n : Nat} {cs : List (List Int × Int)} (h : PartC n cs) (i j : Nat) (hij : i < j) (hj : j < cs.length) : PartC n (mergeC cs i j) := by
  obtain ⟨A, B, R, c, d, rfl, rfl, rfl⟩ := split2 cs i j hij hj
  rw [mergeC_at]
  have hc := h.ne c (by simp)
  have hd : hdC (c.1 ++ d.1, c.2 + d.2) = hdC c := by
    unfold hdC
    cases hx : c.1 with
    | nil => exact absurd hx hc
    | cons x l => rfl
  have hcd : hdC c < hdC d := by
    have := h.heads
    rw [List.map_append, List.map_cons, List.map_append, List.map_cons, List.pairwise_append] at this
    have := this.2.1
    rw [List.pairwise_cons] at this
    exact this.1 _ (by simp)
  refine ⟨fun e he => ?_, fun e he x hx => ?_, ?_, ?_⟩
  · simp only [List.mem_append, List.mem_cons] at he
    rcases he with he | rfl | he | he
    · exact h.ne e (by simp [he])
    · simp [hc]
    · exact h.ne e (by simp [he])
    · exact h.ne e (by simp [he])
  · simp only [List.mem_append, List.mem_cons] at he
    rcases he with he | rfl | he | he
    · exact h.min e (by simp [he]) x hx
    · rw [hd]
      rcases List.mem_append.1 hx with hx | hx
      · exact h.min c (by simp) x hx
      · have := h.min d (by simp) x hx
        omega
    · exact h.min e (by simp [he]) x hx
    · exact h.min e (by simp [he]) x hx
  · refine List.Pairwise.sublist ?_ h.heads
    simp only [List.map_append, List.map_cons, hd]
    refine List.Sublist.append (List.Sublist.refl _) (List.Sublist.cons_cons _ ?_)
    exact List.Sublist.append (List.Sublist.refl _) (List.sublist_cons_self _ _)
  · refine List.Perm.trans ?_ h.perm
    simp only [List.flatMap_append, List.flatMap_cons, List.append_assoc]
    refine List.Perm.append_left _ (List.Perm.append_left _ ?_)
    rw [← List.append_assoc, ← List.append_assoc]
    exact List.Perm.append_right _ List.perm_append_comm
theorem PartC.step {n : Nat} {cs cs' : List (List Int × Int)} (h : PartC n cs) (hs : stepC cs = some cs') : PartC n cs' := by
  obtain ⟨i0, i1, i2, i3, hf, h0, h1, h2, h3, _⟩ := step_ref cs cs' hs
  unfold stepC at hs
  split at hs
  · exact absurd hs (by simp)
  · rename_i hn
    have hf2 : fourC cs = (posC cs (idx4 (cntC cs)) cs.length).take 4 := by unfold fourC; rw [if_neg hn]
    rw [← hf2, hf] at hs
    injection hs with hs
    rw [← hs]
    have l1 := mergeC_length cs i0 i1 (by omega)
    have k1 := h.merge i0 i1 (by omega) (by omega)
    have l2 := mergeC_length (mergeC cs i0 i1) i0 (i2 - 1) (by omega)
    have k2 := k1.merge i0 (i2 - 1) (by omega) (by omega)
    exact k2.merge i0 (i3 - 2) (by omega) (by omega)
theorem startC_heads (l : List S59) (k : Nat) : ((l.zipIdx k).map fun q => (([(q.2 : Int)], q.1.f0) : List Int × Int)).map hdC = (List.range' k l.length).map fun (i : Nat) => (i : Int) := by
  induction l generalizing k with
  | nil => rfl
  | cons x l ih =>
    rw [List.zipIdx_cons, List.map_cons, List.map_cons, ih, List.length_cons, List.range'_succ, List.map_cons]
    rfl
theorem startC_flat (l : List S59) (k : Nat) : (((l.zipIdx k).map fun q => (([(q.2 : Int)], q.1.f0) : List Int × Int)).flatMap fun c => c.1) = (List.range' k l.length).map fun (i : Nat) => (i : Int) := by
  induction l generalizing k with
  | nil => rfl
  | cons x l ih =>
    rw [List.zipIdx_cons, List.map_cons, List.flatMap_cons, ih, List.length_cons, List.range'_succ, List.map_cons]
    rfl
theorem PartC.start (l : List S59) : PartC l.length (startC l) := by
  refine ⟨fun c hc => ?_, fun c hc x hx => ?_, ?_, ?_⟩
  · obtain ⟨q, _, rfl⟩ := List.mem_map.1 hc
    simp
  · obtain ⟨q, _, rfl⟩ := List.mem_map.1 hc
    simp at hx
    subst hx
    exact Int.le_refl _
  · show (((l.zipIdx).map fun q => (([(q.2 : Int)], q.1.f0) : List Int × Int)).map hdC).Pairwise (· < ·)
    rw [startC_heads]
    rw [List.pairwise_map]
    exact List.Pairwise.imp (fun h => by omega) (List.pairwise_lt_range' (s := 0) (n := l.length) (step := 1))
  · show ((((l.zipIdx).map fun q => (([(q.2 : Int)], q.1.f0) : List Int × Int)).flatMap fun c => c.1)).Perm _
    rw [startC_flat, ← List.range_eq_range']
    exact List.Perm.refl _
theorem PartC.iter {n : Nat} (k : Nat) : ∀ {cs : List (List Int × Int)}, PartC n cs → PartC n (iterC k cs) := by
  induction k with
  | zero => intro cs h; exact h
  | succ k ih =>
    intro cs h
    unfold iterC
    cases hs : stepC cs with
    | none => exact h
    | some cs' => exact ih (h.step hs)
theorem InvC.iter {l : List S43} (k : Nat) : ∀ {cs : List (List Int × Int)}, InvC l cs → InvC l (iterC k cs) := by
  induction k with
  | zero => intro cs h; exact h
  | succ k ih =>
    intro cs h
    unfold iterC
    cases hs : stepC cs with
    | none => exact h
    | some cs' => exact ih (h.step hs)
theorem iterC_done (k : Nat) : ∀ (cs : List (List Int × Int)), OkC cs → cs.length ≤ k → stepC (iterC k cs) = none := by
  induction k with
  | zero =>
    intro cs h hl
    have : cs = [] := List.length_eq_zero_iff.1 (by omega)
    subst this
    cases hs : stepC [] with
    | none => exact hs
    | some cs' => have := (stepC_ok h hs).2; simp at this
  | succ k ih =>
    intro cs h hl
    unfold iterC
    cases hs : stepC cs with
    | none => exact hs
    | some cs' =>
      obtain ⟨h1, h2⟩ := stepC_ok h hs
      exact ih cs' h1 (by omega)
end Go.Proofs.Ytckempgpaojljaa.P
end
section
/- What After makes of the groups that are chosen: one piece for each cluster. -/
namespace Go.Proofs.Ytckempgpaojljaa.P
set_option linter.unusedVariables false
set_option linter.unusedSimpArgs false
open Go.RowKit Go.Proofs.YtckempgpaojljaaW.PrintWords Go.Proofs.YtckempgpaojljaaW.PrintLast Go.Proofs.YtckempgpaojljaaW.PrintMore
theorem getD_set {α : Type} (l : List α) (i k : Nat) (a d : α) (hi : i < l.length) : (l.set i a).getD k d = if k = i then a else l.getD k d := by
  simp only [List.getD_eq_getElem?_getD, List.getElem?_set]
  by_cases h : i = k
  · subst h; simp [hi]
  · rw [if_neg h, if_neg (fun e => h e.symm)]
theorem claim1_ok (g : List Int) (n : Nat) : ∀ (is : List Int) (ow : List (List Int)), is.Nodup → ow.length = n → (∀ i ∈ is, 0 ≤ i ∧ i < n ∧ ow.getD i.toNat [] = []) →
    ∃ ow', claim1 g is ow = some ow' ∧ ow'.length = n ∧ ∀ k : Nat, ow'.getD k [] = if (k : Int) ∈ is then g else ow.getD k [] := by
  intro is
  induction is with
  | nil => intro ow _ hl _; exact ⟨ow, rfl, hl, fun k => by simp⟩
  | cons i is ih =>
    intro ow hn hl hi
    obtain ⟨h0, h1, h2⟩ := hi i (by simp)
    rw [List.nodup_cons] at hn
    obtain ⟨ow', e, hl', hk⟩ := ih (ow.set i.toNat g) hn.2 (by simp [hl]) (fun j hj => by
      obtain ⟨j0, j1, j2⟩ := hi j (by simp [hj])
      refine ⟨j0, j1, ?_⟩
      rw [getD_set _ _ _ _ _ (by omega), if_neg (fun e => hn.1 (by rw [show i = j by omega]; exact hj))]
      exact j2)
    refine ⟨ow', ?_, hl', fun k => ?_⟩
    · unfold claim1
      rw [h2]
      exact e
    · rw [hk k, getD_set _ _ _ _ _ (by omega)]
      by_cases e1 : (k : Int) ∈ is
      · rw [if_pos e1, if_pos (by simp [e1])]
      · rw [if_neg e1]
        by_cases e2 : k = i.toNat
        · rw [if_pos e2, if_pos (by simp; omega)]
        · rw [if_neg e2, if_neg (by simp [e1]; omega)]
def groupOf (G : List (List Int)) (k : Nat) : List Int := (G.find? fun g => decide ((k : Int) ∈ g)).getD []
theorem incr_of {n : Int} : ∀ (l : List Int) (last : Int), l.Pairwise (· < ·) → (∀ x ∈ l, last < x ∧ x < n) → incr n last l = true := by
  intro l
  induction l with
  | nil => intro _ _ _; rfl
  | cons x l ih =>
    intro last hp hb
    rw [List.pairwise_cons] at hp
    obtain ⟨h1, h2⟩ := hb x (by simp)
    simp only [incr, Bool.and_eq_true, decide_eq_true_eq]
    exact ⟨⟨h1, h2⟩, ih x hp.2 (fun y hy => ⟨hp.1 y hy, (hb y (by simp [hy])).2⟩)⟩
theorem incr_sorted {n : Int} : ∀ {l : List Int} {last : Int}, incr n last l = true → l.Pairwise (· < ·) := by
  intro l
  induction l with
  | nil => intro _ _; exact List.Pairwise.nil
  | cons x l ih =>
    intro last h
    simp only [incr, Bool.and_eq_true, decide_eq_true_eq] at h
    rw [List.pairwise_cons]
    have key : ∀ {l : List Int} {a : Int}, incr n a l = true → ∀ y ∈ l, a < y := by
      intro l
      induction l with
      | nil => intro a _ y hy; cases hy
      | cons z l ih2 =>
        intro a ha y hy
        simp only [incr, Bool.and_eq_true, decide_eq_true_eq] at ha
        rcases List.mem_cons.1 hy with rfl | hy
        · omega
        · have := ih2 ha.2 y hy
          omega
    exact ⟨fun y hy => key h.2 y hy, ih h.2⟩
theorem okG_nodup {n : Int} {g : List Int} (h : okG n g = true) : g.Nodup := by
  simp only [okG, Bool.and_eq_true] at h
  exact (incr_sorted h.1).imp (fun h => by omega)
theorem owners_ok (n : Nat) : ∀ (G : List (List Int)) (ow : List (List Int)), ow.length = n → (∀ g ∈ G, okG n g = true) → G.Pairwise (fun a b => ∀ x ∈ a, ∀ y ∈ b, x ≠ y) → (∀ g ∈ G, ∀ i ∈ g, ow.getD i.toNat [] = []) →
    ∃ ow', owners n G ow = some ow' ∧ ow'.length = n ∧ ∀ k : Nat, ow'.getD k [] = if ∃ g ∈ G, (k : Int) ∈ g then groupOf G k else ow.getD k [] := by
  intro G
  induction G with
  | nil => intro ow hl _ _ _; exact ⟨ow, rfl, hl, fun k => by simp⟩
  | cons g G ih =>
    intro ow hl hok hd hfree
    rw [List.pairwise_cons] at hd
    have hg := hok g (by simp)
    obtain ⟨ow1, e1, hl1, hk1⟩ := claim1_ok g n g ow (okG_nodup hg) hl (fun i hi => by
      have := okG_bd hg i hi
      exact ⟨this.1, this.2, hfree g (by simp) i hi⟩)
    obtain ⟨ow2, e2, hl2, hk2⟩ := ih ow1 hl1 (fun g' hg' => hok g' (by simp [hg'])) hd.2 (fun g' hg' i hi => by
      have hb := okG_bd (hok g' (by simp [hg'])) i hi
      rw [hk1 i.toNat, show ((i.toNat : Nat) : Int) = i by omega, if_neg (fun h => hd.1 g' hg' i h i hi rfl)]
      exact hfree g' (by simp [hg']) i hi)
    refine ⟨ow2, ?_, hl2, fun k => ?_⟩
    · unfold owners
      rw [if_pos hg, e1]
      exact e2
    · rw [hk2 k, hk1 k]
      by_cases h1 : (k : Int) ∈ g
      · rw [if_neg (fun ⟨g', hg', h⟩ => hd.1 g' hg' _ h1 _ h rfl), if_pos h1, if_pos ⟨g, by simp, h1⟩]
        simp [groupOf, h1]
      · by_cases h2 : ∃ g' ∈ G, (k : Int) ∈ g'
        · rw [if_pos h2, if_pos (by obtain ⟨g', a, b⟩ := h2; exact ⟨g', by simp [a], b⟩)]
          simp [groupOf, h1]
        · rw [if_neg h2, if_neg h1, if_neg (fun ⟨g', a, b⟩ => by
            rcases List.mem_cons.1 a with rfl | a
            · exact h1 b
            · exact h2 ⟨g', a, b⟩)]
def sumC (l : List S59) (g : List Int) : S59 := ⟨sumG (fun i => (rd_T59 l i).f0) g, sumG (fun i => (rd_T59 l i).f1) g⟩
theorem sumC_perm {l : List S59} {a b : List Int} (h : a.Perm b) : sumC l a = sumC l b := by
  unfold sumC
  rw [sumG_perm h, sumG_perm h]
theorem heads_flat {β : Type} (f : List Int × Int → β) : ∀ (m s : Nat) (cs : List (List Int × Int)), (cs.map hdC).Pairwise (· < ·) → (∀ c ∈ cs, (s : Int) ≤ hdC c ∧ hdC c < ((s + m : Nat) : Int)) →
    ((List.range' s m).flatMap fun (k : Nat) => ((cs.find? fun c => decide (hdC c = (k : Int))).map f).toList) = cs.map f := by
  intro m
  induction m with
  | zero =>
    intro s cs _ hb
    cases cs with
    | nil => rfl
    | cons c cs => have := hb c (by simp); omega
  | succ m ih =>
    intro s cs hp hb
    rw [List.range'_succ, List.flatMap_cons]
    cases cs with
    | nil =>
      rw [ih (s + 1) [] hp (fun c hc => by cases hc)]
      rfl
    | cons c cs =>
      rw [List.map_cons, List.pairwise_cons] at hp
      by_cases hs : hdC c = (s : Int)
      · have h2 := ih (s + 1) cs hp.2 (fun d hd => by
          have h3 := hp.1 (hdC d) (List.mem_map.2 ⟨d, hd, rfl⟩)
          have h4 := hb d (by simp [hd])
          omega)
        have e : ((List.range' (s + 1) m).flatMap fun (k : Nat) => (((c :: cs).find? fun c => decide (hdC c = (k : Int))).map f).toList) = cs.map f := by
          rw [← h2]
          rw [List.flatMap_def, List.flatMap_def]
          congr 1
          apply List.map_congr_left
          intro k hk
          have hk2 := List.mem_range'_1.1 hk
          rw [List.find?_cons_of_neg (by simp; omega)]
        rw [e, List.find?_cons_of_pos (by simpa using hs)]
        rfl
      · have hn : ((c :: cs).find? fun c => decide (hdC c = (s : Int))) = none := by
          rw [List.find?_eq_none]
          intro d hd
          rcases List.mem_cons.1 hd with rfl | hd
          · simpa using hs
          · have h3 := hp.1 (hdC d) (List.mem_map.2 ⟨d, hd, rfl⟩)
            have h4 := hb c (by simp)
            simp; omega
        rw [hn]
        have := ih (s + 1) (c :: cs) (by rw [List.map_cons, List.pairwise_cons]; exact hp) (fun d hd => by
          have h4 := hb d hd
          have h5 := hb c (by simp)
          rcases List.mem_cons.1 hd with rfl | hd
          · omega
          · have h3 := hp.1 (hdC d) (List.mem_map.2 ⟨d, hd, rfl⟩)
            omega)
        rw [this]
        rfl
end Go.Proofs.Ytckempgpaojljaa.P
end
section
/- After merging the groups that are chosen there is one piece for each cluster. -/
namespace Go.Proofs.Ytckempgpaojljaa.P
set_option linter.unusedVariables false
set_option linter.unusedSimpArgs false
open Go.RowKit Go.Proofs.YtckempgpaojljaaW.PrintWords Go.Proofs.YtckempgpaojljaaW.PrintLast Go.Proofs.YtckempgpaojljaaW.PrintMore
theorem ixs_nodup (n : Nat) : (ixs n).Nodup := by
  unfold ixs List.Nodup
  rw [List.pairwise_map]
  exact List.Pairwise.imp (fun h => by omega) (List.nodup_range (n := n))
theorem mem_ixs {n : Nat} {x : Int} : x ∈ ixs n ↔ 0 ≤ x ∧ x < n := by
  unfold ixs
  rw [List.mem_map]
  constructor
  · rintro ⟨i, hi, rfl⟩
    rw [List.mem_range] at hi
    omega
  · intro h
    exact ⟨x.toNat, by rw [List.mem_range]; omega, by omega⟩
theorem PartC.nodup {n : Nat} {cs : List (List Int × Int)} (h : PartC n cs) : (∀ c ∈ cs, c.1.Nodup) ∧ cs.Pairwise fun a b => ∀ x ∈ a.1, ∀ y ∈ b.1, x ≠ y := by
  have := (h.perm.nodup_iff).2 (ixs_nodup n)
  unfold List.Nodup at this
  rw [List.pairwise_flatMap] at this
  exact this
theorem pair_uniq {α : Type} {R : α → α → Prop} {l : List α} (h : l.Pairwise R) {a b : α} (ha : a ∈ l) (hb : b ∈ l) (h1 : ¬ R a b) (h2 : ¬ R b a) : a = b := by
  induction l with
  | nil => cases ha
  | cons x l ih =>
    rw [List.pairwise_cons] at h
    rcases List.mem_cons.1 ha with e1 | ha'
    · rcases List.mem_cons.1 hb with e2 | hb'
      · rw [e1, e2]
      · rw [e1] at h1
        exact absurd (h.1 b hb') h1
    · rcases List.mem_cons.1 hb with e2 | hb'
      · rw [e2] at h2
        exact absurd (h.1 a ha') h2
      · exact ih h.2 ha' hb'
theorem PartC.uniq {n : Nat} {cs : List (List Int × Int)} (h : PartC n cs) {c d : List Int × Int} (hc : c ∈ cs) (hd : d ∈ cs) {x : Int} (hx : x ∈ c.1) (hx' : x ∈ d.1) : c = d :=
  pair_uniq h.nodup.2 hc hd (fun hr => hr x hx x hx' rfl) (fun hr => hr x hx' x hx rfl)
theorem PartC.bd {n : Nat} {cs : List (List Int × Int)} (h : PartC n cs) {c : List Int × Int} (hc : c ∈ cs) {x : Int} (hx : x ∈ c.1) : 0 ≤ x ∧ x < n := by
  have : x ∈ ixs n := h.perm.mem_iff.1 (List.mem_flatMap.2 ⟨c, hc, hx⟩)
  exact mem_ixs.1 this
theorem PartC.has {n : Nat} {cs : List (List Int × Int)} (h : PartC n cs) {k : Nat} (hk : k < n) : ∃ c ∈ cs, (k : Int) ∈ c.1 := by
  have : (k : Int) ∈ cs.flatMap fun c => c.1 := h.perm.mem_iff.2 (mem_ixs.2 (by omega))
  exact List.mem_flatMap.1 this
theorem hdC_mem {c : List Int × Int} (h : c.1 ≠ []) : hdC c ∈ c.1 := by
  unfold hdC
  cases hx : c.1 with
  | nil => exact absurd hx h
  | cons x l => simp
theorem sortI_strict {l : List Int} (h : l.Nodup) : (sortI l).Pairwise (· < ·) := by
  have h1 := sortI_sorted l
  have h2 : (sortI l).Nodup := ((sortI_perm l).nodup_iff).2 h
  exact (h1.and h2).imp (fun hab => by
    have := hab.1
    have := hab.2
    simp at *
    omega)
theorem PartC.ok {n : Nat} {cs : List (List Int × Int)} (h : PartC n cs) {c : List Int × Int} (hc : c ∈ cs) : okG n (sortI c.1) = true := by
  simp only [okG, Bool.and_eq_true, decide_eq_true_eq]
  refine ⟨incr_of _ _ (sortI_strict (h.nodup.1 c hc)) (fun x hx => ?_), ?_⟩
  · have := h.bd hc ((sortI_perm _).mem_iff.1 hx)
    omega
  · rw [sortI_length]
    exact List.length_pos_iff.2 (h.ne c hc)
theorem PartC.first {n : Nat} {cs : List (List Int × Int)} (h : PartC n cs) {c : List Int × Int} (hc : c ∈ cs) : (sortI c.1).getD 0 0 = hdC c := by
  have hm : hdC c ∈ sortI c.1 := (sortI_perm _).mem_iff.2 (hdC_mem (h.ne c hc))
  have hs := sortI_sorted c.1
  have hall : ∀ x ∈ sortI c.1, hdC c ≤ x := fun x hx => h.min c hc x ((sortI_perm _).mem_iff.1 hx)
  cases he : sortI c.1 with
  | nil => rw [he] at hm; cases hm
  | cons x l =>
    rw [he] at hm hs hall
    have h1 := hall x (by simp)
    rw [List.pairwise_cons] at hs
    show x = hdC c
    rcases List.mem_cons.1 hm with e | e
    · exact e.symm
    · have := hs.1 _ e
      simp at this
      omega
theorem groupsC_mem {cs : List (List Int × Int)} {g : List Int} : g ∈ groupsC cs ↔ ∃ c ∈ cs, 1 < c.1.length ∧ sortI c.1 = g := by
  unfold groupsC
  simp only [List.mem_map, List.mem_filter, decide_eq_true_eq, and_assoc]
theorem after_part (l : List S59) (cs : List (List Int × Int)) (h : PartC l.length cs) : afterL l (groupsC cs) = some (cs.map fun c => sumC l c.1) := by
  have hdis : (groupsC cs).Pairwise (fun a b => ∀ x ∈ a, ∀ y ∈ b, x ≠ y) := by
    unfold groupsC
    rw [List.pairwise_map]
    refine List.Pairwise.imp ?_ (h.nodup.2.filter _)
    intro a b hab x hx y hy
    exact hab x ((sortI_perm _).mem_iff.1 hx) y ((sortI_perm _).mem_iff.1 hy)
  obtain ⟨ow, e, hl, hk⟩ := owners_ok l.length (groupsC cs) (List.replicate l.length []) (by simp) (fun g hg => by
    obtain ⟨c, hc, _, rfl⟩ := groupsC_mem.1 hg
    exact h.ok hc) hdis (fun g hg i hi => by simp [List.getD_eq_getElem?_getD, List.getElem?_replicate]; split <;> rfl)
  unfold afterL
  rw [e, Option.map_some]
  congr 1
  have hf := heads_flat (fun c => sumC l c.1) l.length 0 cs h.heads (fun c hc => by
    have := h.bd hc (hdC_mem (h.ne c hc))
    omega)
  rw [← hf, ← List.range_eq_range']
  unfold aftK
  rw [List.flatMap_def, List.flatMap_def]
  congr 1
  apply List.map_congr_left
  intro k hk2
  rw [List.mem_range] at hk2
  obtain ⟨c, hc, hkc⟩ := h.has hk2
  have hrep : (List.replicate l.length ([] : List Int)).getD k [] = [] := by simp [List.getD_eq_getElem?_getD, List.getElem?_replicate]; split <;> rfl
  have hfind : (cs.find? fun d => decide (hdC d = (k : Int))) = if hdC c = (k : Int) then some c else none := by
    by_cases e1 : hdC c = (k : Int)
    · rw [if_pos e1]
      cases hx : cs.find? fun d => decide (hdC d = (k : Int)) with
      | none =>
        rw [List.find?_eq_none] at hx
        exact absurd (by simpa using e1) (hx c hc)
      | some d =>
        have h1 := List.find?_some hx
        have h2 := List.mem_of_find?_eq_some hx
        simp at h1
        rw [h.uniq h2 hc (x := (k : Int)) (by rw [← h1]; exact hdC_mem (h.ne d h2)) hkc]
    · rw [if_neg e1, List.find?_eq_none]
      intro d hd hdk
      simp at hdk
      have := h.uniq hd hc (x := (k : Int)) (by rw [← hdk]; exact hdC_mem (h.ne d hd)) hkc
      subst this
      exact e1 hdk
  rw [hfind]
  unfold aftP
  rw [hk k, hrep]
  by_cases hlen : 1 < c.1.length
  · have hg : ∃ g ∈ groupsC cs, (k : Int) ∈ g := ⟨sortI c.1, groupsC_mem.2 ⟨c, hc, hlen, rfl⟩, (sortI_perm _).mem_iff.2 hkc⟩
    have hgo : groupOf (groupsC cs) k = sortI c.1 := by
      unfold groupOf
      cases hx : (groupsC cs).find? fun g => decide ((k : Int) ∈ g) with
      | none =>
        rw [List.find?_eq_none] at hx
        obtain ⟨g, hg1, hg2⟩ := hg
        exact absurd (by simpa using hg2) (hx g hg1)
      | some g =>
        have h1 := List.find?_some hx
        have h2 := List.mem_of_find?_eq_some hx
        simp at h1
        obtain ⟨d, hd, _, rfl⟩ := groupsC_mem.1 h2
        rw [h.uniq hd hc ((sortI_perm _).mem_iff.1 h1) hkc]
        rfl
    rw [if_pos hg, hgo, List.isEmpty_eq_false_iff.2 (by rw [← List.length_pos_iff, sortI_length]; omega), if_neg (by decide), h.first hc]
    by_cases e1 : hdC c = (k : Int)
    · rw [if_pos e1, if_pos e1]
      show [sumC l (sortI c.1)] = [sumC l c.1]
      rw [sumC_perm (sortI_perm _)]
    · rw [if_neg e1, if_neg e1]
      rfl
  · have hg : ¬ ∃ g ∈ groupsC cs, (k : Int) ∈ g := by
      rintro ⟨g, hg1, hg2⟩
      obtain ⟨d, hd, hdl, rfl⟩ := groupsC_mem.1 hg1
      have := h.uniq hd hc ((sortI_perm _).mem_iff.1 hg2) hkc
      subst this
      exact hlen hdl
    have hc1 : c.1 = [(k : Int)] := by
      match hcc : c.1, hkc, hlen with
      | [x], hkc, _ => simp at hkc; rw [hkc]
      | x :: y :: r, _, hlen => exact absurd (by simp) hlen
    have hhd : hdC c = (k : Int) := by unfold hdC; rw [hc1]; rfl
    rw [if_neg hg, if_pos hhd]
    show [rd_T59 l (k : Int)] = [sumC l c.1]
    rw [hc1]
    simp [sumC, sumG]
end Go.Proofs.Ytckempgpaojljaa.P
end
section
namespace Go.Proofs.Ytckempgpaojljaa.P
open Go.RowKit Go.Proofs.YtckempgpaojljaaW.PrintWords Go.Proofs.YtckempgpaojljaaW.PrintLast Go.Proofs.YtckempgpaojljaaW.PrintMore
attribute [local go_sem] max2_int min2_int max_two min_two max_three min_three max_four min_four   -- for this text's walks alone
set_option linter.unusedVariables false
set_option linter.unusedSimpArgs false
end Go.Proofs.Ytckempgpaojljaa.P
end
section
/- Few pieces are left after merging the groups that are chosen, and nothing is chosen any more. -/
namespace Go.Proofs.Ytckempgpaojljaa.P
set_option linter.unusedVariables false
set_option linter.unusedSimpArgs false
open Go.RowKit Go.Proofs.YtckempgpaojljaaW.PrintWords Go.Proofs.YtckempgpaojljaaW.PrintLast Go.Proofs.YtckempgpaojljaaW.PrintMore
def finC (l : List S43) : List (List Int × Int) := iterC l.length (startC (pcs l))
def outL (l : List S43) : List S59 := (finC l).map fun c => sumC (pcs l) c.1
theorem finC_ok {l : List S43} (hv : validL (pcs l) = true) : OkC (finC l) ∧ PartC l.length (finC l) ∧ InvC l (finC l) ∧ stepC (finC l) = none := by
  have h1 := startC_ok hv
  refine ⟨iterC_ok _ _ h1, ?_, (InvC.start l).iter _, ?_⟩
  · have := (PartC.start (pcs l)).iter l.length
    rw [pcs_length] at this
    exact this
  · exact iterC_done _ _ h1 (by simp [startC, pcs])
theorem chosen_groups {l : List S43} (hv : validL (pcs l) = true) : choose (pcs l) = groupsC (finC l) := by
  unfold choose finC
  rw [pcs_length]
theorem after_chosen {l : List S43} (hv : validL (pcs l) = true) : afterR l (choose (pcs l)) = ([], unp (outL l), 0, 0) := by
  unfold afterR
  rw [hv, if_pos rfl, chosen_groups hv, after_part (pcs l) (finC l) (by rw [pcs_length]; exact (finC_ok hv).2.1)]
  rfl
theorem rd_pcs (l : List S43) (i : Int) : rd_T59 (pcs l) i = ⟨(rd_T43 l i).f0, (rd_T43 l i).f1⟩ := by
  unfold rd_T59 rd_T43 pcs
  rw [List.getD_eq_getElem?_getD, List.getD_eq_getElem?_getD, List.getElem?_map]
  cases l[i.toNat]? <;> rfl
theorem outL_names {l : List S43} (hv : validL (pcs l) = true) : (outL l).map (fun p => p.f0) = (finC l).map fun c => c.2 := by
  unfold outL
  rw [List.map_map]
  apply List.map_congr_left
  intro c hc
  have := (finC_ok hv).2.2.1.sum c hc
  show sumG (fun i => (rd_T59 (pcs l) i).f0) c.1 = c.2
  rw [this]
  congr 1
  funext i
  rw [rd_pcs]
theorem lv_mono : ∀ (b a : Nat), a ≤ b → lv a ≤ lv b := by
  intro b
  induction b using Nat.strongRecOn with
  | _ b ih =>
    intro a hab
    rcases Nat.eq_zero_or_pos a with rfl | ha
    · rw [lv_zero]; exact (lv_bd b).1
    · rw [lv_pos a ha, lv_pos b (by omega)]
      have := ih (b / 4) (by omega) (a / 4) (Nat.div_le_div_right hab)
      omega
theorem lv_nonneg {n : Nat} (h : 0 < n) : 0 ≤ lv n := by
  rw [lv_pos n h]
  have := (lv_bd (n / 4)).1
  omega
end Go.Proofs.Ytckempgpaojljaa.P
end
section
/- The facts that the law CostFew asks of the pieces that are left. -/
namespace Go.Proofs.Ytckempgpaojljaa.P
set_option linter.unusedVariables false
set_option linter.unusedSimpArgs false
open Go.RowKit Go.Proofs.YtckempgpaojljaaW.PrintWords Go.Proofs.YtckempgpaojljaaW.PrintLast Go.Proofs.YtckempgpaojljaaW.PrintMore
theorem validL_of {l : List S59} (hl : l.length ≤ 512) (h : ∀ p ∈ l, 1 ≤ p.f0 ∧ p.f0 ≤ 5994 ∧ 0 ≤ p.f1 ∧ p.f1 ≤ 1000000000) : validL l = true := by
  simp only [validL, Bool.and_eq_true, decide_eq_true_eq, List.all_eq_true]
  refine ⟨hl, fun p hp => ?_⟩
  have := h p hp
  simp [oddP]
  omega
theorem iterC_len (k : Nat) : ∀ (cs : List (List Int × Int)), OkC cs → (iterC k cs).length ≤ cs.length := by
  induction k with
  | zero => intro cs _; exact Nat.le_refl _
  | succ k ih =>
    intro cs h
    unfold iterC
    cases hs : stepC cs with
    | none => exact Nat.le_refl _
    | some cs' =>
      obtain ⟨h1, h2⟩ := stepC_ok h hs
      have := ih cs' h1
      show (iterC k cs').length ≤ cs.length
      omega
theorem outL_len {l : List S43} (hv : validL (pcs l) = true) : (outL l).length ≤ l.length := by
  unfold outL finC
  rw [List.length_map]
  have := iterC_len l.length _ (startC_ok hv)
  simp [startC, pcs] at this
  exact this
theorem sum_perm_le {l : List Int} {B : Int} (h : ∀ x ∈ l, 0 ≤ x) {x : Int} (hx : x ∈ l) : x ≤ l.sum := by
  obtain ⟨i, hi, rfl⟩ := List.getElem_of_mem hx
  have := sum_ge l h i hi
  simpa [List.getD_eq_getElem?_getD, hi] using this
theorem sumG_flat (f : Int → Int) (cs : List (List Int × Int)) : (cs.map fun c => sumG f c.1).sum = sumG f (cs.flatMap fun c => c.1) := by
  induction cs with
  | nil => rfl
  | cons c cs ih => rw [List.map_cons, List.sum_cons, ih, List.flatMap_cons, sumG_append]
theorem sumG_ixs (l : List S43) (f : S43 → Int) : sumG (fun i => f (rd_T43 l i)) (ixs l.length) = (l.map f).sum := by
  unfold sumG ixs
  rw [List.map_map]
  congr 1
  apply List.ext_getElem
  · simp
  · intro i h1 h2
    have hi : i < l.length := by simpa using h2
    simp [rd43 hi]
theorem out_sum {l : List S43} (hv : validL (pcs l) = true) : ((outL l).map fun p => p.f0).sum = (l.map fun p => p.f0).sum ∧ ((outL l).map fun p => p.f1).sum = (l.map fun p => p.f1).sum := by
  have hp := (finC_ok hv).2.1.perm
  have key : ∀ f : S43 → Int, ((finC l).map fun c => sumG (fun i => f (rd_T43 l i)) c.1).sum = (l.map f).sum := fun f => by
    rw [sumG_flat, sumG_perm hp, sumG_ixs]
  constructor
  · rw [← key (fun p => p.f0)]
    unfold outL
    rw [List.map_map]
    congr 1
    apply List.map_congr_left
    intro c _
    show sumG (fun i => (rd_T59 (pcs l) i).f0) c.1 = sumG (fun i => (rd_T43 l i).f0) c.1
    congr 1
    funext i
    rw [rd_pcs]
  · rw [← key (fun p => p.f1)]
    unfold outL
    rw [List.map_map]
    congr 1
    apply List.map_congr_left
    intro c _
    show sumG (fun i => (rd_T59 (pcs l) i).f1) c.1 = sumG (fun i => (rd_T43 l i).f1) c.1
    congr 1
    funext i
    rw [rd_pcs]
theorem sum_le_of {α : Type} (l : List α) (f : α → Int) (B : Int) (h : ∀ p ∈ l, 0 ≤ f p ∧ f p ≤ B) : 0 ≤ (l.map f).sum ∧ (l.map f).sum ≤ B * l.length := by
  have := psum_bd f l B h l.length (Nat.le_refl _)
  rwa [psum_all] at this
theorem out_bd {l : List S43} (hv : validL (pcs l) = true) : ∀ p ∈ outL l, 1 ≤ p.f0 ∧ p.f0 ≤ (l.map fun p => p.f0).sum ∧ 0 ≤ p.f1 ∧ p.f1 ≤ (l.map fun p => p.f1).sum := by
  obtain ⟨hok, hpart, hinv, _⟩ := finC_ok hv
  obtain ⟨_, hm⟩ := valid_mem hv
  have hn := outL_names hv
  have hs := out_sum hv
  have hf0 : ∀ p ∈ outL l, 1 ≤ p.f0 := fun p hp => by
    have : p.f0 ∈ (outL l).map fun p => p.f0 := List.mem_map.2 ⟨p, hp, rfl⟩
    rw [hn] at this
    obtain ⟨c, hc, e⟩ := List.mem_map.1 this
    rw [← e]
    exact hok.pos c hc
  have hf1 : ∀ p ∈ outL l, 0 ≤ p.f1 := fun p hp => by
    obtain ⟨c, hc, rfl⟩ := List.mem_map.1 hp
    show 0 ≤ sumG (fun i => (rd_T59 (pcs l) i).f1) c.1
    refine (sum_le_of c.1 (fun i => (rd_T59 (pcs l) i).f1) 1000000000 (fun i hi => ?_)).1
    have hb := hpart.bd hc hi
    have := hm _ (rd_mem hb.1 (by rw [pcs_length]; exact hb.2))
    omega
  intro p hp
  refine ⟨hf0 p hp, ?_, hf1 p hp, ?_⟩
  · rw [← hs.1]
    exact sum_perm_le (B := 0) (fun x hx => by
      obtain ⟨q, hq, rfl⟩ := List.mem_map.1 hx
      have := hf0 q hq
      omega) (List.mem_map.2 ⟨p, hp, rfl⟩)
  · rw [← hs.2]
    exact sum_perm_le (B := 0) (fun x hx => by
      obtain ⟨q, hq, rfl⟩ := List.mem_map.1 hx
      exact hf1 q hq) (List.mem_map.2 ⟨p, hp, rfl⟩)
theorem startC_names (l : List S59) : (startC l).map (fun c => c.2) = l.map fun p => p.f0 := by
  unfold startC
  rw [List.map_map]
  have : ∀ (l : List S59) (k : Nat), (l.zipIdx k).map ((fun c : List Int × Int => c.2) ∘ fun q => ([(q.2 : Int)], q.1.f0)) = l.map fun p => p.f0 := by
    intro l
    induction l with
    | nil => intro _; rfl
    | cons x l ih => intro k; rw [List.zipIdx_cons, List.map_cons, List.map_cons, ih]; rfl
  exact this l 0
end Go.Proofs.Ytckempgpaojljaa.P
end
section
/- The facts that the law CostWorth asks of the groups that are worth merging. -/
namespace Go.Proofs.Ytckempgpaojljaa.P
set_option linter.unusedVariables false
set_option linter.unusedSimpArgs false
open Go.RowKit Go.Proofs.YtckempgpaojljaaW.PrintWords Go.Proofs.YtckempgpaojljaaW.PrintLast Go.Proofs.YtckempgpaojljaaW.PrintMore
theorem choose_ok {l : List S43} (hv : validL (pcs l) = true) : ∀ g ∈ choose (pcs l), okG l.length g = true ∧ 1 < g.length ∧ g.length ≤ l.length := by
  intro g hg
  rw [chosen_groups hv] at hg
  obtain ⟨c, hc, h1, rfl⟩ := groupsC_mem.1 hg
  have hok := (finC_ok hv).2.1.ok hc
  refine ⟨hok, by rw [sortI_length]; exact h1, ?_⟩
  have := okG_len hok
  omega
theorem choose_num {l : List S43} (hv : validL (pcs l) = true) : (choose (pcs l)).length ≤ l.length := by
  rw [chosen_groups hv]
  have h1 := groups_len (finC l)
  have h2 := outL_len hv
  unfold outL at h2
  rw [List.length_map] at h2
  omega
end Go.Proofs.Ytckempgpaojljaa.P
end
section
/- The facts that the law CostSums asks of one merged group. -/
namespace Go.Proofs.Ytckempgpaojljaa.P
set_option linter.unusedVariables false
set_option linter.unusedSimpArgs false
open Go.RowKit Go.Proofs.YtckempgpaojljaaW.PrintWords Go.Proofs.YtckempgpaojljaaW.PrintLast Go.Proofs.YtckempgpaojljaaW.PrintMore
end Go.Proofs.Ytckempgpaojljaa.P
end
section
/- What the calls of the law CostSums answer. -/
namespace Go.Proofs.Ytckempgpaojljaa.P
set_option linter.unusedVariables false
set_option linter.unusedSimpArgs false
open Go.RowKit Go.Proofs.YtckempgpaojljaaW.PrintWords Go.Proofs.YtckempgpaojljaaW.PrintLast Go.Proofs.YtckempgpaojljaaW.PrintMore
end Go.Proofs.Ytckempgpaojljaa.P
end
section
/- What the law CostChoice asks: the plain law. -/
namespace Go.Proofs.Ytckempgpaojljaa.P
set_option linter.unusedVariables false
set_option linter.unusedSimpArgs false
open Go.RowKit Go.Proofs.YtckempgpaojljaaW.PrintWords Go.Proofs.YtckempgpaojljaaW.PrintLast Go.Proofs.YtckempgpaojljaaW.PrintMore
end Go.Proofs.Ytckempgpaojljaa.P
end
section
/- Clusters of a list whose levels do not rise: consecutive pieces become one. -/
namespace Go.Proofs.Ytckempgpaojljaa.P
set_option linter.unusedVariables false
set_option linter.unusedSimpArgs false
open Go.RowKit Go.Proofs.YtckempgpaojljaaW.PrintWords Go.Proofs.YtckempgpaojljaaW.PrintLast Go.Proofs.YtckempgpaojljaaW.PrintMore
theorem lv_iff : ∀ (n L : Nat), 0 < n → (lv n = (L : Int) ↔ 4 ^ L ≤ n ∧ n < 4 ^ (L + 1)) := by
  intro n
  induction n using Nat.strongRecOn with
  | _ n ih =>
    intro L hn
    rw [lv_pos n hn]
    rcases Nat.eq_zero_or_pos (n / 4) with h0 | h0
    · rw [h0, lv_zero]
      have hlt : n < 4 := by omega
      constructor
      · intro h
        obtain rfl : L = 0 := by omega
        simp
        omega
      · rintro ⟨h1, h2⟩
        have hL : L = 0 := by
          rcases Nat.eq_zero_or_pos L with h | h
          · exact h
          · have : 4 ^ 1 ≤ 4 ^ L := Nat.pow_le_pow_right (by decide) h
            omega
        subst hL
        rfl
    · cases L with
      | zero =>
        have := lv_nonneg h0
        constructor
        · intro h; omega
        · rintro ⟨_, h2⟩; omega
      | succ L =>
        have := ih (n / 4) (by omega) L h0
        have e1 : 4 ^ (L + 1) = 4 ^ L * 4 := Nat.pow_succ ..
        have e2 : 4 ^ (L + 1 + 1) = 4 ^ (L + 1) * 4 := Nat.pow_succ ..
        rw [e2]
        constructor
        · intro h
          obtain ⟨h1, h2⟩ := this.1 (by omega)
          omega
        · rintro ⟨h1, h2⟩
          have := this.2 ⟨by omega, by omega⟩
          omega
theorem lv_four {a b c d L : Nat} (ha : 0 < a) (hb : 0 < b) (hc : 0 < c) (hd : 0 < d) (h0 : lv a = L) (h1 : lv b = L) (h2 : lv c = L) (h3 : lv d = L) : lv (a + b + c + d) = ((L + 1 : Nat) : Int) := by
  have h0 := (lv_iff a L ha).1 h0
  have h1 := (lv_iff b L hb).1 h1
  have h2 := (lv_iff c L hc).1 h2
  have h3 := (lv_iff d L hd).1 h3
  have e1 : 4 ^ (L + 1) = 4 ^ L * 4 := Nat.pow_succ ..
  have e2 : 4 ^ (L + 1 + 1) = 4 ^ (L + 1) * 4 := Nat.pow_succ ..
  exact (lv_iff _ _ (by omega)).2 ⟨by omega, by omega⟩
structure RowC (l : List S43) (cs : List (List Int × Int)) : Prop where
  flat : (cs.flatMap fun c => c.1) = ixs l.length
  ne : ∀ c ∈ cs, c.1 ≠ []
  pos : ∀ c ∈ cs, 1 ≤ c.2
  desc : cs.Pairwise fun a b => lv b.2.toNat ≤ lv a.2.toNat
  le : ∀ c ∈ cs, ∀ i ∈ c.1, lv (rd_T43 l i).f0.toNat ≤ lv c.2.toNat
  up : ∀ c ∈ cs, c.1.length = 1 ∨ ∀ i ∈ c.1, lv (rd_T43 l i).f0.toNat + 1 ≤ lv c.2.toNat
theorem drop4 {α : Type} (l : List α) (i : Nat) (h : i + 3 < l.length) : l = l.take i ++ l[i] :: l[i + 1] :: l[i + 2] :: l[i + 3] :: l.drop (i + 4) := by
  have e0 : l.drop i = l[i] :: l.drop (i + 1) := List.drop_eq_getElem_cons (by omega)
  have e1 : l.drop (i + 1) = l[i + 1] :: l.drop (i + 2) := List.drop_eq_getElem_cons (by omega)
  have e2 : l.drop (i + 2) = l[i + 2] :: l.drop (i + 3) := List.drop_eq_getElem_cons (by omega)
  have e3 : l.drop (i + 3) = l[i + 3] :: l.drop (i + 4) := List.drop_eq_getElem_cons (by omega)
  rw [← e3, ← e2, ← e1, ← e0, List.take_append_drop]
theorem merge_next (A R : List (List Int × Int)) (c d : List Int × Int) : mergeC (A ++ c :: d :: R) A.length (A.length + 1) = A ++ (c.1 ++ d.1, c.2 + d.2) :: R := mergeC_at A [] R c d
theorem desc_between {cs : List (List Int × Int)} (hd : cs.Pairwise fun a b => lv b.2.toNat ≤ lv a.2.toNat) {i j k : Nat} (hij : i ≤ j) (hjk : j ≤ k) (hk : k < cs.length) {L : Int} (hi : lv (cs.getD i ([], 0)).2.toNat = L) (hk' : lv (cs.getD k ([], 0)).2.toNat = L) : lv (cs.getD j ([], 0)).2.toNat = L := by
  have key : ∀ a b : Nat, a ≤ b → b < cs.length → lv (cs.getD b ([], 0)).2.toNat ≤ lv (cs.getD a ([], 0)).2.toNat := fun a b hab hb => by
    rcases Nat.lt_or_eq_of_le hab with h | h
    · have := List.pairwise_iff_getElem.1 hd a b (by omega) hb h
      simpa [List.getD_eq_getElem?_getD, hb, (show a < cs.length by omega)] using this
    · subst h; exact Int.le_refl _
  have h1 := key i j hij (by omega)
  have h2 := key j k hjk hk
  omega
theorem pos_next {cs : List (List Int × Int)} (hd : cs.Pairwise fun a b => lv b.2.toNat ≤ lv a.2.toNat) {L : Int} {i0 i1 i2 i3 : Nat} (h : (posC cs L cs.length).take 4 = [i0, i1, i2, i3]) : i1 = i0 + 1 ∧ i2 = i0 + 2 ∧ i3 = i0 + 3 ∧ i3 < cs.length ∧ (∀ j, i0 ≤ j → j ≤ i3 → lv (cs.getD j ([], 0)).2.toNat = L) ∧ ∀ j, j < i0 → lv (cs.getD j ([], 0)).2.toNat ≠ L := by
  have hs := posC_sorted cs L cs.length
  obtain ⟨rest, hr⟩ : ∃ rest, posC cs L cs.length = i0 :: i1 :: i2 :: i3 :: rest := ⟨(posC cs L cs.length).drop 4, by
    have := List.take_append_drop 4 (posC cs L cs.length)
    rw [h] at this
    exact this.symm⟩
  have hm : ∀ i ∈ posC cs L cs.length, i < cs.length ∧ lv (cs.getD i ([], 0)).2.toNat = L := fun i hi => posC_mem hi
  rw [hr] at hs hm
  have m0 := hm i0 (by simp)
  have m1 := hm i1 (by simp)
  have m2 := hm i2 (by simp)
  have m3 := hm i3 (by simp)
  simp only [List.pairwise_cons, List.mem_cons] at hs
  obtain ⟨s0, s1, s2, s3, _⟩ := hs
  have a1 := s0 i1 (.inl rfl)
  have a2 := s1 i2 (.inl rfl)
  have a3 := s2 i3 (.inl rfl)
  have all : ∀ j, i0 ≤ j → j ≤ i3 → lv (cs.getD j ([], 0)).2.toNat = L := fun j h0 h3 => desc_between hd h0 h3 m3.1 m0.2 m3.2
  have mem : ∀ j, i0 ≤ j → j ≤ i3 → j ∈ posC cs L cs.length := fun j h0 h3 => by
    unfold posC
    rw [List.mem_filter]
    exact ⟨List.mem_range.2 (by have := m3.1; omega), decide_eq_true (all j h0 h3)⟩
  have cl : ∀ j, i0 ≤ j → j ≤ i3 → j = i0 ∨ j = i1 ∨ j = i2 ∨ j = i3 := fun j h0 h3 => by
    have := mem j h0 h3
    rw [hr] at this
    simp only [List.mem_cons] at this
    rcases this with e | e | e | e | e
    · exact .inl e
    · exact .inr (.inl e)
    · exact .inr (.inr (.inl e))
    · exact .inr (.inr (.inr e))
    · have := s3 j e
      omega
  have b1 := cl (i0 + 1) (by omega) (by omega)
  have b2 := cl (i0 + 2) (by omega) (by omega)
  have b3 := cl (i0 + 3) (by omega) (by omega)
  refine ⟨by omega, by omega, by omega, m3.1, all, fun j hj he => ?_⟩
  have hjm : j ∈ posC cs L cs.length := by
    unfold posC
    rw [List.mem_filter]
    exact ⟨List.mem_range.2 (by have := m0.1; omega), decide_eq_true he⟩
  rw [hr] at hjm
  simp only [List.mem_cons] at hjm
  rcases hjm with e | e | e | e | e
  · omega
  · omega
  · omega
  · omega
  · have := s3 j e
    omega
theorem RowC.step {l : List S43} {cs cs' : List (List Int × Int)} (h : RowC l cs) (hs : stepC cs = some cs') : RowC l cs' := by
  obtain ⟨i0, i1, i2, i3, hf, _, _, _, _, _⟩ := step_ref cs cs' hs
  unfold stepC at hs
  split at hs
  · exact absurd hs (by simp)
  · rename_i hn
    have hf2 : fourC cs = (posC cs (idx4 (cntC cs)) cs.length).take 4 := by unfold fourC; rw [if_neg hn]
    rw [← hf2, hf] at hs
    injection hs with hs
    obtain ⟨e1, e2, e3, h3, hall, hfst⟩ := pos_next h.desc (hf2.symm.trans hf)
    obtain ⟨L, hL⟩ : ∃ L : Nat, idx4 (cntC cs) = (L : Int) := ⟨(idx4 (cntC cs)).toNat, by omega⟩
    rw [hL] at hall hfst
    have hfst2 : ∀ a ∈ cs.take i0, lv a.2.toNat ≠ (L : Int) := fun a ha => by
      obtain ⟨j, hj, rfl⟩ := List.getElem_of_mem ha
      rw [List.length_take] at hj
      have := hfst j (by omega)
      simpa [List.getD_eq_getElem?_getD, (show j < cs.length by omega)] using this
    have q0 := hall i0 (by omega) (by omega)
    have q1 := hall (i0 + 1) (by omega) (by omega)
    have q2 := hall (i0 + 2) (by omega) (by omega)
    have q3 := hall (i0 + 3) (by omega) (by omega)
    subst e1 e2 e3
    have hd := drop4 cs i0 h3
    have gd : ∀ j (hj : j < cs.length), cs.getD j ([], 0) = cs[j] := fun j hj => by simp [List.getD_eq_getElem?_getD, hj]
    rw [gd i0 (by omega)] at q0
    rw [gd (i0 + 1) (by omega)] at q1
    rw [gd (i0 + 2) (by omega)] at q2
    rw [gd (i0 + 3) (by omega)] at q3
    have hAl : (cs.take i0).length = i0 := by rw [List.length_take]; omega
    generalize cs[i0] = c0 at *
    generalize cs[i0 + 1] = c1 at *
    generalize cs[i0 + 2] = c2 at *
    generalize cs[i0 + 3] = c3 at *
    generalize cs.take i0 = A at *
    generalize cs.drop (i0 + 4) = R at *
    clear gd hall hf hf2 hn h3 hfst
    subst hd
    subst hAl
    rw [merge_next, show A.length + 2 - 1 = A.length + 1 by omega, merge_next, show A.length + 3 - 2 = A.length + 1 by omega, merge_next] at hs
    subst hs
    have p0 := h.pos c0 (by simp)
    have p1 := h.pos c1 (by simp)
    have p2 := h.pos c2 (by simp)
    have p3 := h.pos c3 (by simp)
    have hlv : lv (c0.2 + c1.2 + c2.2 + c3.2).toNat = ((L + 1 : Nat) : Int) := by
      rw [show (c0.2 + c1.2 + c2.2 + c3.2).toNat = c0.2.toNat + c1.2.toNat + c2.2.toNat + c3.2.toNat by omega]
      exact lv_four (by omega) (by omega) (by omega) (by omega) q0 q1 q2 q3
    have hmem : ∀ i ∈ c0.1 ++ c1.1 ++ c2.1 ++ c3.1, lv (rd_T43 l i).f0.toNat ≤ (L : Int) := fun i hi => by
      simp only [List.mem_append] at hi
      rcases hi with ((hi | hi) | hi) | hi
      · have := h.le c0 (by simp) i hi; omega
      · have := h.le c1 (by simp) i hi; omega
      · have := h.le c2 (by simp) i hi; omega
      · have := h.le c3 (by simp) i hi; omega
    refine ⟨?_, fun c hc => ?_, fun c hc => ?_, ?_, fun c hc i hi => ?_, fun c hc => ?_⟩
    · have := h.flat
      simp only [List.flatMap_append, List.flatMap_cons, List.append_assoc] at this ⊢
      exact this
    · rcases List.mem_append.1 hc with hc | hc
      · exact h.ne c (by simp [hc])
      · rcases List.mem_cons.1 hc with rfl | hc
        · have := h.ne c0 (by simp)
          simp [this]
        · exact h.ne c (by simp [hc])
    · rcases List.mem_append.1 hc with hc | hc
      · exact h.pos c (by simp [hc])
      · rcases List.mem_cons.1 hc with rfl | hc
        · show 1 ≤ c0.2 + c1.2 + c2.2 + c3.2
          omega
        · exact h.pos c (by simp [hc])
    · have hd := h.desc
      rw [List.pairwise_append] at hd ⊢
      obtain ⟨dA, dR, dx⟩ := hd
      simp only [List.pairwise_cons] at dR ⊢
      obtain ⟨r0, r1, r2, r3, rR⟩ := dR
      refine ⟨dA, ⟨fun b hb => ?_, rR⟩, fun a ha b hb => ?_⟩
      · show lv b.2.toNat ≤ lv (c0.2 + c1.2 + c2.2 + c3.2).toNat
        have := r0 b (by simp [hb])
        omega
      · rcases List.mem_cons.1 hb with rfl | hb
        · show lv (c0.2 + c1.2 + c2.2 + c3.2).toNat ≤ lv a.2.toNat
          have h1 := dx a ha c0 (by simp)
          have h2 := hfst2 a ha
          omega
        · exact dx a ha b (by simp [hb])
    · rcases List.mem_append.1 hc with hc | hc
      · exact h.le c (by simp [hc]) i hi
      · rcases List.mem_cons.1 hc with rfl | hc
        · have := hmem i hi
          show _ ≤ lv (c0.2 + c1.2 + c2.2 + c3.2).toNat
          omega
        · exact h.le c (by simp [hc]) i hi
    · rcases List.mem_append.1 hc with hc | hc
      · exact h.up c (by simp [hc])
      · rcases List.mem_cons.1 hc with rfl | hc
        · exact .inr fun i hi => by
            have := hmem i hi
            show _ ≤ lv (c0.2 + c1.2 + c2.2 + c3.2).toNat
            omega
        · exact h.up c (by simp [hc])
theorem RowC.iter {l : List S43} (k : Nat) : ∀ {cs : List (List Int × Int)}, RowC l cs → RowC l (iterC k cs) := by
  induction k with
  | zero => intro cs h; exact h
  | succ k ih =>
    intro cs h
    unfold iterC
    cases hs : stepC cs with
    | none => exact h
    | some cs' => exact ih (h.step hs)
theorem RowC.start {l : List S43} (hp : ∀ p ∈ l, 1 ≤ p.f0) (hd : l.Pairwise fun a b => lv b.f0.toNat ≤ lv a.f0.toNat) : RowC l (startC (pcs l)) := by
  have hn := startC_names (pcs l)
  have hpn : (pcs l).map (fun p => p.f0) = l.map fun p => p.f0 := by unfold pcs; rw [List.map_map]; rfl
  rw [hpn] at hn
  have hsingle : ∀ c ∈ startC (pcs l), ∃ i : Nat, i < l.length ∧ c = ([(i : Int)], (rd_T43 l (i : Int)).f0) := fun c hc => by
    obtain ⟨q, hq, rfl⟩ := List.mem_map.1 hc
    obtain ⟨p, i⟩ := q
    obtain ⟨h1, h2, h3⟩ := List.mem_zipIdx hq
    simp only [Nat.zero_add, Nat.sub_zero, pcs_length] at h2 h3
    refine ⟨i, h2, ?_⟩
    rw [rd43 h2, h3]
    simp [pcs]
  refine ⟨?_, fun c hc => ?_, fun c hc => ?_, ?_, fun c hc i hi => ?_, fun c hc => ?_⟩
  · have := startC_flat (pcs l) 0
    rw [pcs_length] at this
    unfold startC ixs
    rw [this, List.range_eq_range']
  · obtain ⟨i, _, rfl⟩ := hsingle c hc
    simp
  · obtain ⟨i, hi, rfl⟩ := hsingle c hc
    show 1 ≤ (rd_T43 l (i : Int)).f0
    rw [rd43 hi]
    exact hp _ (List.getElem_mem hi)
  · have h1 : ((startC (pcs l)).map fun c => c.2).Pairwise fun a b => lv b.toNat ≤ lv a.toNat := by
      rw [hn]
      exact List.pairwise_map.2 hd
    exact List.pairwise_map.1 h1
  · obtain ⟨j, _, rfl⟩ := hsingle c hc
    rw [List.mem_singleton.1 hi]
    exact Int.le_refl _
  · obtain ⟨j, _, rfl⟩ := hsingle c hc
    exact .inl rfl
end Go.Proofs.Ytckempgpaojljaa.P
end
section
/- One round of the law CostWrites: the plain law. -/
namespace Go.Proofs.Ytckempgpaojljaa.P
set_option linter.unusedVariables false
set_option linter.unusedSimpArgs false
open Go.RowKit Go.Proofs.YtckempgpaojljaaW.PrintWords Go.Proofs.YtckempgpaojljaaW.PrintLast Go.Proofs.YtckempgpaojljaaW.PrintMore
def fst (l : List S43) (x : Nat) : Int := psum (fun p : S43 => p.f0) l x
def firstL (l : List S43) : List Int := (List.range l.length).map fun x => fst l x
theorem fst_succ {l : List S43} {x : Nat} (hx : x < l.length) : fst l (x + 1) = fst l x + (rd_T43 l (x : Int)).f0 := by
  unfold fst
  rw [psum_succ _ _ _ _ (List.getElem?_eq_getElem hx), rd43 hx]
theorem fst_mono {l : List S43} (hp : ∀ p ∈ l, 1 ≤ p.f0) : ∀ {y z : Nat}, y ≤ z → z ≤ l.length → fst l y ≤ fst l z := by
  intro y z hyz
  induction z with
  | zero => intro _; rw [show y = 0 by omega]; exact Int.le_refl _
  | succ z ih =>
    intro hz
    rcases Nat.lt_or_eq_of_le hyz with h | h
    · have h1 := ih (by omega) (by omega)
      have h2 := fst_succ (l := l) (x := z) (by omega)
      have h3 := hp (rd_T43 l (z : Int)) (by rw [rd43 (by omega : z < l.length)]; exact List.getElem_mem _)
      omega
    · rw [h]; exact Int.le_refl _
theorem fst_uniq {l : List S43} (hp : ∀ p ∈ l, 1 ≤ p.f0) {y z : Nat} (hy : y < l.length) (hz : z < l.length) {d : Int} (h1 : fst l y ≤ d) (h2 : d < fst l (y + 1)) (h3 : fst l z ≤ d) (h4 : d < fst l (z + 1)) : y = z := by
  rcases Nat.lt_trichotomy y z with h | h | h
  · have := fst_mono hp (y := y + 1) (z := z) (by omega) (by omega)
    omega
  · exact h
  · have := fst_mono hp (y := z + 1) (z := y) (by omega) (by omega)
    omega
theorem ixs_succ (s : Nat) : ixs (s + 1) = ixs s ++ [(s : Int)] := by
  unfold ixs
  rw [List.range_succ, List.map_append]
  rfl
theorem sumG_fst (l : List S43) : ∀ s, s ≤ l.length → sumG (fun i => (rd_T43 l i).f0) (ixs s) = fst l s := by
  intro s
  induction s with
  | zero => intro _; unfold fst; rw [psum_zero]; rfl
  | succ s ih =>
    intro hs
    rw [ixs_succ, sumG_append, ih (by omega), fst_succ (by omega)]
    unfold sumG
    simp
structure WGood (l : List S43) (i : Nat) : Prop where
  pos : ∀ p ∈ l, 1 ≤ p.f0 ∧ 0 ≤ p.f1
  tot : (l.map fun p => p.f0).sum = (i : Int)
  tot1 : (l.map fun p => p.f1).sum ≤ 255 * (i : Int)
  desc : l.Pairwise fun a b => lv b.f0.toNat ≤ lv a.f0.toNat
theorem WGood.bd {l : List S43} {i : Nat} (h : WGood l i) : ∀ p ∈ l, p.f0 ≤ i ∧ p.f1 ≤ 255 * (i : Int) := fun p hp => by
  have a := sum_perm_le (l := l.map fun p => p.f0) (B := 0) (fun x hx => by obtain ⟨q, hq, rfl⟩ := List.mem_map.1 hx; have := h.pos q hq; omega) (List.mem_map.2 ⟨p, hp, rfl⟩)
  have b := sum_perm_le (l := l.map fun p => p.f1) (B := 0) (fun x hx => by obtain ⟨q, hq, rfl⟩ := List.mem_map.1 hx; exact (h.pos q hq).2) (List.mem_map.2 ⟨p, hp, rfl⟩)
  rw [h.tot] at a
  have := h.tot1
  omega
theorem WGood.len {l : List S43} {i : Nat} (h : WGood l i) : l.length ≤ i := by
  have key : ∀ l : List S43, (∀ p ∈ l, 1 ≤ p.f0) → (l.length : Int) ≤ (l.map fun p => p.f0).sum := by
    intro l
    induction l with
    | nil => intro _; simp
    | cons p l ih =>
      intro hp
      have h1 := ih fun q hq => hp q (by simp [hq])
      have h2 := hp p (by simp)
      simp only [List.length_cons, List.map_cons, List.sum_cons]
      omega
  have := key l fun p hp => (h.pos p hp).1
  rw [h.tot] at this
  omega
theorem WGood.nil : WGood [] 0 := ⟨by simp, by simp, by simp, by simp⟩
theorem WGood.add {l : List S43} {i : Nat} (h : WGood l i) {b : Int} (b0 : 0 ≤ b) (b1 : b ≤ 255) : WGood (l ++ [⟨1, b⟩]) (i + 1) := by
  refine ⟨fun p hp => ?_, ?_, ?_, ?_⟩
  · rcases List.mem_append.1 hp with hp | hp
    · exact h.pos p hp
    · rw [List.mem_singleton.1 hp]
      exact ⟨Int.le_refl _, b0⟩
  · rw [List.map_append, List.sum_append, h.tot]
    simp
  · have := h.tot1
    rw [List.map_append, List.sum_append]
    simp
    omega
  · rw [List.pairwise_append]
    refine ⟨h.desc, by simp, fun a ha c hc => ?_⟩
    rw [List.mem_singleton.1 hc]
    show lv 1 ≤ _
    rw [lv_1]
    have := h.pos a ha
    exact lv_nonneg (by omega)
theorem fst_len {l : List S43} {i : Nat} (h : WGood l i) : fst l l.length = i := by
  unfold fst
  rw [psum_all, h.tot]
theorem firstL_add {l : List S43} {i : Nat} (h : WGood l i) (b : Int) : firstL (l ++ [⟨1, b⟩]) = firstL l ++ [(i : Int)] := by
  unfold firstL
  rw [List.length_append, List.length_singleton, List.range_succ, List.map_append]
  have key : ∀ x, x ≤ l.length → fst (l ++ [⟨1, b⟩]) x = fst l x := fun x hx => by
    unfold fst psum
    rw [List.take_append_of_le_length hx]
  congr 1
  · exact List.map_congr_left fun x hx => key x (by have := List.mem_range.1 hx; omega)
  · rw [List.map_singleton, key _ (Nat.le_refl _), fst_len h]
theorem WGood.valid {l : List S43} {i : Nat} (h : WGood l i) (hi : i ≤ 70) : validL (pcs l) = true := by
  have hl := h.len
  refine validL_of (by rw [pcs_length]; omega) (fun p hp => ?_)
  obtain ⟨q, hq, rfl⟩ := List.mem_map.1 hp
  have h1 := h.pos q hq
  have h2 := h.bd q hq
  show 1 ≤ q.f0 ∧ q.f0 ≤ 5994 ∧ 0 ≤ q.f1 ∧ q.f1 ≤ 1000000000
  omega
def hits (l : List S43) (P : List Int) (d : Nat) : Int := ((P.filter fun x => decide (fst l x.toNat ≤ (d : Int)) && decide ((d : Int) < fst l (x.toNat + 1))).length : Int)
theorem hits_snoc (l : List S43) (P : List Int) (x : Int) (d : Nat) : hits l (P ++ [x]) d = hits l P d + if fst l x.toNat ≤ (d : Int) ∧ (d : Int) < fst l (x.toNat + 1) then 1 else 0 := by
  unfold hits
  rw [List.filter_append, List.length_append]
  by_cases h : fst l x.toNat ≤ (d : Int) ∧ (d : Int) < fst l (x.toNat + 1)
  · rw [if_pos h]
    simp [h.1, h.2]
  · rw [if_neg h]
    have : (decide (fst l x.toNat ≤ (d : Int)) && decide ((d : Int) < fst l (x.toNat + 1))) = false := by
      rcases Decidable.not_and_iff_not_or_not.1 h with h | h
      · rw [decide_eq_false h, Bool.false_and]
      · rw [decide_eq_false h, Bool.and_false]
    simp [List.filter_cons, this]
theorem hits_le (l : List S43) (P : List Int) (d : Nat) : 0 ≤ hits l P d ∧ hits l P d ≤ P.length := by
  unfold hits
  have := List.length_filter_le (fun x : Int => decide (fst l x.toNat ≤ (d : Int)) && decide ((d : Int) < fst l (x.toNat + 1))) P
  omega
theorem uniq_len {α : Type} {l : List α} (hn : l.Nodup) (p : α → Bool) (y : α) (h : ∀ x ∈ l, p x = true → x = y) : (l.filter p).length ≤ 1 ∧ (y ∉ l → (l.filter p).length = 0) := by
  induction l with
  | nil => simp
  | cons a l ih =>
    rw [List.nodup_cons] at hn
    have ih := ih hn.2 fun x hx => h x (by simp [hx])
    by_cases hp : p a = true
    · have e := h a (by simp) hp
      subst e
      rw [List.filter_cons, if_pos hp]
      have := ih.2 hn.1
      simp only [List.length_cons]
      exact ⟨by omega, fun hy => absurd List.mem_cons_self hy⟩
    · rw [List.filter_cons, if_neg hp]
      exact ⟨ih.1, fun hy => ih.2 fun h => hy (List.mem_cons_of_mem _ h)⟩
structure UOK (l : List S43) (i : Nat) (U : Nat → Int) : Prop where
  le : ∀ x, x < l.length → ∀ d : Nat, fst l x ≤ (d : Int) → (d : Int) < fst l (x + 1) → U d ≤ lv (rd_T43 l (x : Int)).f0.toNat
  far : ∀ d, i ≤ d → U d = 0
  bd : ∀ d, 0 ≤ U d ∧ U d ≤ 100 * i
theorem UOK.nil : UOK [] 0 (fun _ => 0) := ⟨fun x hx => absurd hx (Nat.not_lt_zero _), fun _ _ => rfl, fun _ => ⟨by omega, by omega⟩⟩
theorem UOK.add {l : List S43} {i : Nat} {U : Nat → Int} (h : UOK l i U) (hg : WGood l i) (b : Int) : UOK (l ++ [⟨1, b⟩]) (i + 1) U := by
  have key : ∀ x, x ≤ l.length → fst (l ++ [⟨1, b⟩]) x = fst l x := fun x hx => by
    unfold fst psum
    rw [List.take_append_of_le_length hx]
  refine ⟨fun x hx d h1 h2 => ?_, fun d hd => h.far d (by omega), fun d => by have := h.bd d; omega⟩
  rw [List.length_append, List.length_singleton] at hx
  rcases Nat.lt_or_ge x l.length with hlt | hge
  · rw [key x (by omega)] at h1
    rw [key (x + 1) (by omega)] at h2
    have e : rd_T43 (l ++ [⟨1, b⟩]) (x : Int) = rd_T43 l (x : Int) := by
      rw [rd43 hlt, rd43 (by rw [List.length_append]; omega), List.getElem_append_left hlt]
    rw [e]
    exact h.le x hlt d h1 h2
  · obtain rfl : x = l.length := by omega
    rw [key _ (Nat.le_refl _), fst_len hg] at h1
    have e : rd_T43 (l ++ [⟨1, b⟩]) ((l.length : Nat) : Int) = ⟨1, b⟩ := by
      rw [rd43 (by rw [List.length_append, List.length_singleton]; omega), List.getElem_append_right (Nat.le_refl _)]
      simp
    rw [e, h.far d (by omega)]
    show 0 ≤ lv 1
    rw [lv_1]
    exact Int.le_refl _
end Go.Proofs.Ytckempgpaojljaa.P
end
section
/- One round of the law CostWrites: what it asks. -/
namespace Go.Proofs.Ytckempgpaojljaa.P
set_option linter.unusedVariables false
set_option linter.unusedSimpArgs false
open Go.RowKit Go.Proofs.YtckempgpaojljaaW.PrintWords Go.Proofs.YtckempgpaojljaaW.PrintLast Go.Proofs.YtckempgpaojljaaW.PrintMore
structure StepW (l : List S43) (i0 : Nat) (G : List (List Int)) (newl : List S43) : Prop where
  cho : chosenL l = (G, [], 0, 0)
  aft : afterR l G = ([], newl, 0, 0)
  grp : ∀ g ∈ G, 0 < g.length ∧ g.length ≤ l.length ∧ ∀ x ∈ g, 0 ≤ x ∧ x < l.length
  nod : G.flatten.Nodup
  tot : G.flatten.length ≤ l.length
  num : G.length ≤ l.length
  hd : ∃ hd : Nat → Bool, (∀ x, x < l.length → (∀ g ∈ G, (x : Int) ∉ g) → hd x = true) ∧ (∀ x, x < l.length → ∀ g ∈ G, (x : Int) ∈ g → hd x = decide (g.getD 0 0 = (x : Int))) ∧ ((List.range l.length).flatMap fun x => if hd x then [fst l x] else []) = firstL newl
  good : WGood newl (i0 + 1)
  u : ∀ U, UOK l (i0 + 1) U → (∀ d, U d ≤ 100 * (i0 : Int)) → UOK newl (i0 + 1) (fun d => U d + hits l G.flatten d)
theorem ixs_len (n : Nat) : (ixs n).length = n := by simp [ixs]
theorem ixs_get (n j : Nat) (h : j < n) : (ixs n)[j]? = some (j : Int) := by simp [ixs, h]
theorem ixs_pre {A B : List Int} {n : Nat} (h : A ++ B = ixs n) : A = ixs A.length ∧ A.length ≤ n := by
  have hl := congrArg List.length h
  rw [List.length_append, ixs_len] at hl
  refine ⟨List.ext_getElem? fun j => ?_, by omega⟩
  rcases Nat.lt_or_ge j A.length with hj | hj
  · rw [ixs_get _ _ hj, ← List.getElem?_append_left (l₂ := B) hj, h, ixs_get _ _ (by omega)]
  · rw [List.getElem?_eq_none hj, List.getElem?_eq_none (by rw [ixs_len]; exact hj)]
def offs (cs : List (List Int × Int)) (x : Nat) : Nat := ((cs.take x).flatMap fun c => c.1).length
theorem offs_ixs {n : Nat} {cs : List (List Int × Int)} (h : (cs.flatMap fun c => c.1) = ixs n) (x : Nat) : ((cs.take x).flatMap fun c => c.1) = ixs (offs cs x) ∧ offs cs x ≤ n := by
  have e : ((cs.take x).flatMap fun c => c.1) ++ ((cs.drop x).flatMap fun c => c.1) = ixs n := by
    rw [← List.flatMap_append, List.take_append_drop, h]
  exact ixs_pre e
theorem offs_succ {cs : List (List Int × Int)} {x : Nat} (hx : x < cs.length) : offs cs (x + 1) = offs cs x + cs[x].1.length ∧ ((cs.take (x + 1)).flatMap fun c => c.1) = ((cs.take x).flatMap fun c => c.1) ++ cs[x].1 := by
  have e : ((cs.take (x + 1)).flatMap fun c => c.1) = ((cs.take x).flatMap fun c => c.1) ++ cs[x].1 := by
    rw [List.take_add_one, List.getElem?_eq_getElem hx, List.flatMap_append]
    simp
  refine ⟨?_, e⟩
  unfold offs
  rw [e, List.length_append]
theorem offs_get {n : Nat} {cs : List (List Int × Int)} (h : (cs.flatMap fun c => c.1) = ixs n) {x : Nat} (hx : x < cs.length) (j : Nat) (hj : j < cs[x].1.length) : cs[x].1[j]? = some ((offs cs x + j : Nat) : Int) := by
  obtain ⟨e1, e2⟩ := offs_succ hx
  have h1 := (offs_ixs h (x + 1)).1
  have h2 : (((cs.take x).flatMap fun c => c.1) ++ cs[x].1)[offs cs x + j]? = some ((offs cs x + j : Nat) : Int) := by
    rw [← e2, h1]
    exact ixs_get _ _ (by omega)
  rw [List.getElem?_append_right (show ((cs.take x).flatMap fun c => c.1).length ≤ offs cs x + j from Nat.le_add_right _ _)] at h2
  have : offs cs x + j - ((cs.take x).flatMap fun c => c.1).length = j := by unfold offs; omega
  rwa [this] at h2
theorem find_iv {l : List S43} {d : Int} {a : Nat} : ∀ b, a ≤ b → fst l a ≤ d → d < fst l b → ∃ y, a ≤ y ∧ y < b ∧ fst l y ≤ d ∧ d < fst l (y + 1) := by
  intro b
  induction b with
  | zero =>
    intro h h1 h2
    rw [show a = 0 by omega] at h1
    omega
  | succ b ih =>
    intro h h1 h2
    rcases Nat.lt_or_eq_of_le h with h | h
    · rcases Int.lt_or_le d (fst l b) with h3 | h3
      · obtain ⟨y, y0, y1, y2, y3⟩ := ih (by omega) h1 h3
        exact ⟨y, y0, by omega, y2, y3⟩
      · exact ⟨b, by omega, by omega, h3, h2⟩
    · rw [h] at h1
      omega
theorem groups_flat_perm (cs : List (List Int × Int)) : (groupsC cs).flatten.Perm ((cs.filter fun c => decide (1 < c.1.length)).flatMap fun c => c.1) := by
  unfold groupsC
  induction cs.filter fun c => decide (1 < c.1.length) with
  | nil => exact List.Perm.refl _
  | cons c cs ih =>
    rw [List.map_cons, List.flatten_cons, List.flatMap_cons]
    exact List.Perm.append (sortI_perm c.1) ih
theorem flat_sub {α β : Type} (f : α → List β) (p : α → Bool) (l : List α) : ((l.filter p).flatMap f).Sublist (l.flatMap f) := by
  induction l with
  | nil => exact List.Sublist.refl _
  | cons a l ih =>
    rw [List.filter_cons, List.flatMap_cons]
    split
    · rw [List.flatMap_cons]
      exact List.Sublist.append (List.Sublist.refl _) ih
    · exact ih.trans (List.sublist_append_right _ _)
theorem step_ok {l : List S43} {i0 : Nat} (h : WGood l (i0 + 1)) (hi : i0 + 1 ≤ 70) : ∃ G newl, StepW l i0 G newl := by
  have hv := h.valid hi
  have hlen := h.len
  obtain ⟨hok, hpart, hinv, _⟩ := finC_ok hv
  have hrow : RowC l (finC l) := (RowC.start (fun p hp => (h.pos p hp).1) h.desc).iter l.length
  have hcg := chosen_groups hv
  have hgo := choose_ok hv
  have hout := out_bd hv
  have hsum := out_sum hv
  have hnm := outL_names hv
  have hpos : ∀ p ∈ l, 1 ≤ p.f0 := fun p hp => (h.pos p hp).1
  have hnl : (unp (outL l)).length = (finC l).length := by simp [unp, outL]
  have hun : (unp (outL l)).map (fun p : S43 => p.f0) = (finC l).map fun c => c.2 := by
    rw [← hnm]
    unfold unp
    rw [List.map_map]
    rfl
  have hun1 : (unp (outL l)).map (fun p : S43 => p.f1) = (outL l).map fun p : S59 => p.f1 := by
    unfold unp
    rw [List.map_map]
    rfl
  have hfst : ∀ x, x ≤ (finC l).length → fst (unp (outL l)) x = fst l (offs (finC l) x) := fun x hx => by
    obtain ⟨e1, e2⟩ := offs_ixs hrow.flat x
    rw [← sumG_fst l _ e2, ← e1, ← sumG_flat]
    unfold fst psum
    rw [List.map_take, hun, ← List.map_take]
    congr 1
    apply List.map_congr_left
    intro c hc
    exact hinv.sum c (List.mem_of_mem_take hc)
  have hrdn : ∀ x (hx : x < (finC l).length), (rd_T43 (unp (outL l)) (x : Int)).f0 = (finC l)[x].2 := fun x hx => by
    have e := congrArg (fun L : List Int => L[x]?) hun
    simp only [List.getElem?_map] at e
    rw [List.getElem?_eq_getElem (by rw [hnl]; exact hx), List.getElem?_eq_getElem hx] at e
    rw [rd43 (by rw [hnl]; exact hx)]
    exact Option.some.inj e
  have hmemG : ∀ g, g ∈ choose (pcs l) ↔ ∃ c ∈ finC l, 1 < c.1.length ∧ sortI c.1 = g := fun g => by rw [hcg]; exact groupsC_mem
  have hmemS : ∀ (c : List Int × Int) (x : Int), x ∈ sortI c.1 ↔ x ∈ c.1 := fun c x => (sortI_perm c.1).mem_iff
  have hflp : (choose (pcs l)).flatten.Perm (((finC l).filter fun c => decide (1 < c.1.length)).flatMap fun c => c.1) := by rw [hcg]; exact groups_flat_perm _
  have hflsub := flat_sub (fun c : List Int × Int => c.1) (fun c => decide (1 < c.1.length)) (finC l)
  rw [hrow.flat] at hflsub
  have hnodup : (choose (pcs l)).flatten.Nodup := (hflp.nodup_iff).2 (hflsub.nodup (ixs_nodup _))
  refine ⟨choose (pcs l), unp (outL l), ?_, after_chosen hv, fun g hg => ?_, hnodup, ?_, choose_num hv, ?_, ?_, fun U hU hUb => ?_⟩
  · unfold chosenL
    rw [hv, if_pos rfl]
  · have h1 := hgo g hg
    have h2 := okG_bd h1.1
    exact ⟨by omega, h1.2.2, h2⟩
  · rw [hflp.length_eq]
    have := hflsub.length_le
    rw [ixs_len] at this
    exact this
  · refine ⟨fun (x : Nat) => ((finC l).find? fun c => decide (hdC c = (x : Int))).isSome, fun x hx hno => ?_, fun x hx g hg hxg => ?_, ?_⟩
    · obtain ⟨c, hc, hxc⟩ := hpart.has hx
      rw [List.find?_isSome]
      refine ⟨c, hc, decide_eq_true ?_⟩
      have h1 : c.1.length = 1 := by
        rcases Nat.lt_or_ge 1 c.1.length with h2 | h2
        · exact absurd ((hmemS c _).2 hxc) (hno _ ((hmemG _).2 ⟨c, hc, h2, rfl⟩))
        · have := hpart.ne c hc
          have : 0 < c.1.length := List.length_pos_iff.2 this
          omega
      obtain ⟨a, ha⟩ := List.length_eq_one_iff.1 h1
      rw [ha] at hxc
      unfold hdC
      rw [ha]
      exact (List.mem_singleton.1 hxc).symm
    · obtain ⟨c, hc, h1, rfl⟩ := (hmemG g).1 hg
      rw [hpart.first hc]
      have hxc := (hmemS c _).1 hxg
      by_cases hh : hdC c = (x : Int)
      · rw [decide_eq_true hh, List.find?_isSome]
        exact ⟨c, hc, decide_eq_true hh⟩
      · rw [decide_eq_false hh]
        show ((finC l).find? fun c => decide (hdC c = (x : Int))).isSome = false
        cases hf : (finC l).find? fun c => decide (hdC c = (x : Int)) with
        | none => rfl
        | some c2 =>
          exfalso
          have h2 := List.find?_some hf
          have h3 := List.mem_of_find?_eq_some hf
          have h4 : hdC c2 = (x : Int) := of_decide_eq_true h2
          have h5 := hdC_mem (hpart.ne c2 h3)
          rw [h4] at h5
          have := hpart.uniq h3 hc h5 hxc
          rw [this] at h4
          exact hh h4
    · have h1 := heads_flat (fun c => fst l (hdC c).toNat) l.length 0 (finC l) hpart.heads (fun c hc => by
        have := hpart.bd hc (hdC_mem (hpart.ne c hc))
        omega)
      rw [← List.range_eq_range'] at h1
      have e1 : ((List.range l.length).flatMap fun (x : Nat) => if ((finC l).find? fun c => decide (hdC c = (x : Int))).isSome then [fst l x] else []) = (List.range l.length).flatMap fun (k : Nat) => (((finC l).find? fun c => decide (hdC c = (k : Int))).map fun c => fst l (hdC c).toNat).toList := by
        congr 1
        funext x
        cases hf : (finC l).find? fun c => decide (hdC c = (x : Int)) with
        | none => rfl
        | some c2 =>
          have h3 := List.find?_some hf
          have h4 : hdC c2 = (x : Int) := of_decide_eq_true h3
          simp [h4]
      rw [e1, h1]
      unfold firstL
      apply List.ext_getElem?
      intro x
      rw [List.getElem?_map, List.getElem?_map]
      rcases Nat.lt_or_ge x (finC l).length with hx | hx
      · rw [List.getElem?_eq_getElem hx, List.getElem?_range (by rw [hnl]; exact hx)]
        simp only [Option.map_some]
        rw [hfst x (by omega)]
        have hne := hpart.ne (finC l)[x] (List.getElem_mem hx)
        have h0 := offs_get hrow.flat hx 0 (List.length_pos_iff.2 hne)
        have : hdC (finC l)[x] = (offs (finC l) x : Nat) := by
          unfold hdC
          rw [List.headD_eq_head?_getD, List.head?_eq_getElem?, h0]
          rfl
        rw [this]
        rfl
      · rw [List.getElem?_eq_none hx, List.getElem?_eq_none (by rw [List.length_range, hnl]; exact hx)]
        rfl
  · refine ⟨fun p hp => ?_, ?_, ?_, ?_⟩
    · obtain ⟨q, hq, rfl⟩ := List.mem_map.1 hp
      have := hout q hq
      exact ⟨this.1, this.2.2.1⟩
    · have e : (unp (outL l)).map (fun p : S43 => p.f0) = (outL l).map fun p : S59 => p.f0 := by rw [hun, hnm]
      rw [e, hsum.1]
      exact h.tot
    · rw [hun1, hsum.2]
      exact h.tot1
    · have : ((unp (outL l)).map fun p : S43 => p.f0).Pairwise fun a b => lv b.toNat ≤ lv a.toNat := by
        rw [hun]
        exact List.pairwise_map.2 hrow.desc
      exact List.pairwise_map.1 this
  · refine ⟨fun x hx d h1 h2 => ?_, fun d hd => ?_, fun d => ?_⟩
    · rw [hnl] at hx
      rw [hfst x (by omega)] at h1
      rw [hfst (x + 1) (by omega)] at h2
      obtain ⟨e1, e2⟩ := offs_succ hx
      obtain ⟨y, y0, y1, y2, y3⟩ := find_iv (offs (finC l) (x + 1)) (by omega) h1 h2
      have hon := (offs_ixs hrow.flat (x + 1)).2
      have hyn : y < l.length := by omega
      have hyc : (y : Int) ∈ (finC l)[x].1 := by
        have := offs_get hrow.flat hx (y - offs (finC l) x) (by omega)
        rw [show offs (finC l) x + (y - offs (finC l) x) = y by omega] at this
        exact List.mem_of_getElem? this
      have hc := List.getElem_mem hx
      have hUy := hU.le y hyn d y2 y3
      have huq := uniq_len hnodup (fun z : Int => decide (fst l z.toNat ≤ (d : Int)) && decide ((d : Int) < fst l (z.toNat + 1))) (y : Int) (fun z hz hp => by
        obtain ⟨g, hg, hzg⟩ := List.mem_flatten.1 hz
        have hzb := okG_bd (hgo g hg).1 z hzg
        simp only [Bool.and_eq_true, decide_eq_true_eq] at hp
        have := fst_uniq hpos (y := z.toNat) (z := y) (by omega) hyn hp.1 hp.2 y2 y3
        omega)
      have hhd : hits l (choose (pcs l)).flatten d = (((choose (pcs l)).flatten.filter fun z : Int => decide (fst l z.toNat ≤ (d : Int)) && decide ((d : Int) < fst l (z.toNat + 1))).length : Int) := rfl
      rw [hrdn x hx]
      show U d + hits l (choose (pcs l)).flatten d ≤ lv (finC l)[x].2.toNat
      rcases hrow.up _ hc with h1l | hup
      · have hny : (y : Int) ∉ (choose (pcs l)).flatten := fun hy => by
          obtain ⟨g, hg, hyg⟩ := List.mem_flatten.1 hy
          obtain ⟨c2, hc2, h2l, rfl⟩ := (hmemG g).1 hg
          have := hpart.uniq hc2 hc ((hmemS c2 _).1 hyg) hyc
          rw [this] at h2l
          omega
        have h0 := huq.2 hny
        have hle := hrow.le _ hc _ hyc
        omega
      · have h1' := huq.1
        have hle := hup _ hyc
        omega
    · have h1 := hU.far d hd
      have h2 : hits l (choose (pcs l)).flatten d = 0 := by
        unfold hits
        rw [List.filter_eq_nil_iff.2]
        · rfl
        · intro z hz
          obtain ⟨g, hg, hzg⟩ := List.mem_flatten.1 hz
          have hzb := okG_bd (hgo g hg).1 z hzg
          have h3 := fst_mono hpos (y := z.toNat + 1) (z := l.length) (by omega) (Nat.le_refl _)
          rw [fst_len h] at h3
          simp only [Bool.and_eq_true, decide_eq_true_eq]
          omega
      omega
    · have h1 := hU.bd d
      have h2 := hits_le l (choose (pcs l)).flatten d
      have h3 := hUb d
      have h4 : (choose (pcs l)).flatten.length ≤ l.length := by
        rw [hflp.length_eq]
        have := hflsub.length_le
        rw [ixs_len] at this
        exact this
      omega
end Go.Proofs.Ytckempgpaojljaa.P
end
section
/- The rows of numbers that the law CostWrites keeps. -/
namespace Go.Proofs.Ytckempgpaojljaa.P
set_option linter.unusedVariables false
set_option linter.unusedSimpArgs false
open Go.RowKit Go.Proofs.YtckempgpaojljaaW.PrintWords Go.Proofs.YtckempgpaojljaaW.PrintLast Go.Proofs.YtckempgpaojljaaW.PrintMore
theorem rd_set (l : List Int) (i k : Nat) (a : Int) (hi : i < l.length) : rd (l.set i a) (k : Int) = if k = i then a else rd l (k : Int) := by
  show (l.set i a).getD k 0 = _
  rw [getD_set _ _ _ _ _ hi]
  rfl
def WU (m : Nat) (U : Nat → Int) (wl : List Int) : Prop := wl.length = m ∧ ∀ c : Nat, c < m → 0 ≤ rd wl (c : Int) ∧ rd wl (c : Int) ≤ U c
theorem WU.mono {m : Nat} {U U' : Nat → Int} {wl : List Int} (h : WU m U wl) (hu : ∀ d, U d ≤ U' d) : WU m U' wl := ⟨h.1, fun c hc => by have := h.2 c hc; have := hu c; omega⟩
theorem WU.set {m : Nat} {U : Nat → Int} {wl : List Int} (h : WU m U wl) {c : Nat} (hc : c < m) {v : Int} (hv : v = rd wl (c : Int) + 1) : WU m (fun d => U d + if d = c then 1 else 0) (wl.set c v) := by
  refine ⟨by rw [List.length_set]; exact h.1, fun d hd => ?_⟩
  rw [rd_set _ _ _ _ (by rw [h.1]; exact hc)]
  have h1 := h.2 d hd
  have h2 := h.2 c hc
  show 0 ≤ (if d = c then v else rd wl (d : Int)) ∧ (if d = c then v else rd wl (d : Int)) ≤ U d + if d = c then 1 else 0
  by_cases hdc : d = c
  · subst hdc
    rw [if_pos rfl, if_pos rfl]
    omega
  · rw [if_neg hdc, if_neg hdc]
    omega
theorem WU.zero (m : Nat) : WU m (fun _ => 0) (List.replicate m 0) := ⟨by simp, fun c hc => by simp [rd, List.getD_eq_getElem?_getD, hc]⟩
structure OwnP (n : Nat) (G : List (List Int)) (P : List Int) (ow : List Int) : Prop where
  len : ow.length = n
  rel : ∀ x : Nat, x < n → (rd ow (x : Int) = 0 ∧ (x : Int) ∉ P) ∨ ((x : Int) ∈ P ∧ ∃ q : Nat, q < G.length ∧ rd ow (x : Int) = (q : Int) + 1 ∧ (x : Int) ∈ G.getD q [])
theorem OwnP.start (n : Nat) (G : List (List Int)) : OwnP n G [] (List.replicate n 0) := ⟨by simp, fun x hx => .inl ⟨by simp [rd, List.getD_eq_getElem?_getD, hx], by simp⟩⟩
theorem OwnP.set {n : Nat} {G : List (List Int)} {P ow : List Int} (h : OwnP n G P ow) {k x : Nat} (hk : k < G.length) (hx : x < n) (hg : (x : Int) ∈ G.getD k []) : OwnP n G (P ++ [(x : Int)]) (ow.set x ((k : Int) + 1)) := by
  refine ⟨by rw [List.length_set]; exact h.len, fun y hy => ?_⟩
  rw [rd_set _ _ _ _ (by rw [h.len]; exact hx)]
  by_cases hxy : y = x
  · subst hxy
    rw [if_pos rfl]
    exact .inr ⟨by simp, k, hk, rfl, hg⟩
  · rw [if_neg hxy]
    rcases h.rel y hy with ⟨h1, h2⟩ | ⟨h1, h2⟩
    · refine .inl ⟨h1, fun hm => ?_⟩
      rcases List.mem_append.1 hm with hm | hm
      · exact h2 hm
      · have := List.mem_singleton.1 hm
        exact hxy (by omega)
    · exact .inr ⟨List.mem_append_left _ h1, h2⟩
theorem OwnP.free {n : Nat} {G : List (List Int)} {P ow : List Int} (h : OwnP n G P ow) {x : Nat} (hx : x < n) (hn : (x : Int) ∉ P) : rd ow (x : Int) = 0 := by
  rcases h.rel x hx with ⟨h1, _⟩ | ⟨h1, _⟩
  · exact h1
  · exact absurd h1 hn
def doneP (G : List (List Int)) (k j : Nat) : List Int := (G.take k).flatten ++ (G.getD k []).take j
theorem doneP_zero (G : List (List Int)) : doneP G 0 0 = [] := by simp [doneP]
theorem doneP_snoc {G : List (List Int)} {k j : Nat} {g : List Int} {x : Int} (hg : G[k]? = some g) (hx : g[j]? = some x) : doneP G k (j + 1) = doneP G k j ++ [x] := by
  have e : G.getD k [] = g := by simp [List.getD_eq_getElem?_getD, hg]
  unfold doneP
  rw [e, List.take_add_one, hx, List.append_assoc]
  rfl
theorem doneP_next {G : List (List Int)} {k : Nat} {g : List Int} (hg : G[k]? = some g) : doneP G k g.length = doneP G (k + 1) 0 := by
  have e : G.getD k [] = g := by simp [List.getD_eq_getElem?_getD, hg]
  unfold doneP
  rw [e, List.take_length, List.take_zero, List.append_nil, List.take_add_one, hg, List.flatten_append]
  simp
theorem doneP_all (G : List (List Int)) : doneP G G.length 0 = G.flatten := by simp [doneP]
theorem doneP_free {G : List (List Int)} (hn : G.flatten.Nodup) {k j : Nat} {g : List Int} {x : Int} (hg : G[k]? = some g) (hx : g[j]? = some x) : x ∉ doneP G k j := by
  have e : G.flatten = doneP G k j ++ (x :: ((g.drop (j + 1)) ++ (G.drop (k + 1)).flatten)) := by
    have e1 : G.getD k [] = g := by simp [List.getD_eq_getElem?_getD, hg]
    obtain ⟨hk, hgk⟩ := List.getElem?_eq_some_iff.1 hg
    obtain ⟨hj, hxj⟩ := List.getElem?_eq_some_iff.1 hx
    have h1 : G.flatten = (G.take k).flatten ++ (g ++ (G.drop (k + 1)).flatten) := by
      conv => lhs; rw [← List.take_append_drop k G, List.flatten_append, List.drop_eq_getElem_cons hk, hgk, List.flatten_cons]
    have h2 : g = g.take j ++ (x :: g.drop (j + 1)) := by
      conv => lhs; rw [← List.take_append_drop j g, List.drop_eq_getElem_cons hj, hxj]
    unfold doneP
    rw [e1, h1]
    conv => lhs; rw [h2]
    simp [List.append_assoc]
  rw [e] at hn
  rw [List.nodup_append] at hn
  intro hm
  exact hn.2.2 x hm x (by simp) rfl
theorem mem_flat_len {G : List (List Int)} {g : List Int} (h : g ∈ G) : g.length ≤ G.flatten.length := by
  induction G with
  | nil => cases h
  | cons a G ih =>
    rw [List.flatten_cons, List.length_append]
    rcases List.mem_cons.1 h with e | h
    · subst e; omega
    · have := ih h; omega
theorem doneP_len {G : List (List Int)} (n : Nat) (ht : G.flatten.length ≤ n) {k j : Nat} : (doneP G k j).length ≤ 2 * n := by
  have h1 : ((G.take k).flatten).length ≤ G.flatten.length := by
    have e : G.flatten = (G.take k).flatten ++ (G.drop k).flatten := by rw [← List.flatten_append, List.take_append_drop]
    rw [e, List.length_append]
    omega
  have h2 : (G.getD k []).length ≤ G.flatten.length := by
    rcases Nat.lt_or_ge k G.length with h | h
    · exact mem_flat_len (getD_mem G k [] h)
    · simp [List.getD_eq_getElem?_getD, h]
  unfold doneP
  rw [List.length_append, List.length_take]
  omega
def nextL (l : List S43) (hd : Nat → Bool) (x : Nat) : List Int := (List.range x).flatMap fun y => if hd y then [fst l y] else []
theorem nextL_succ (l : List S43) (hd : Nat → Bool) (x : Nat) : nextL l hd (x + 1) = nextL l hd x ++ if hd x then [fst l x] else [] := by
  unfold nextL
  rw [List.range_succ, List.flatMap_append]
  simp
theorem nextL_len (l : List S43) (hd : Nat → Bool) (x : Nat) : (nextL l hd x).length ≤ x := by
  induction x with
  | zero => simp [nextL]
  | succ x ih =>
    rw [nextL_succ, List.length_append]
    split <;> simp <;> omega
theorem rd_firstL (l : List S43) {x : Nat} (hx : x < l.length) : rd (firstL l) (x : Int) = fst l x := by
  simp [rd, firstL, List.getD_eq_getElem?_getD, hx]
theorem firstL_len (l : List S43) : (firstL l).length = l.length := by simp [firstL]
theorem fst_nn {l : List S43} (hp : ∀ p ∈ l, 1 ≤ p.f0) {x : Nat} (hx : x ≤ l.length) : 0 ≤ fst l x := by
  have := fst_mono hp (y := 0) (z := x) (by omega) hx
  have h0 : fst l 0 = 0 := by unfold fst; exact psum_zero _ _
  omega
end Go.Proofs.Ytckempgpaojljaa.P
end
section
namespace Go.Proofs.Ytckempgpaojljaa.P
open Go.RowKit Go.Proofs.YtckempgpaojljaaW.PrintWords Go.Proofs.YtckempgpaojljaaW.PrintLast Go.Proofs.YtckempgpaojljaaW.PrintMore
attribute [local go_sem] max2_int min2_int max_two min_two max_three min_three max_four min_four   -- for this text's walks alone
set_option linter.unusedVariables false
set_option linter.unusedSimpArgs false
end Go.Proofs.Ytckempgpaojljaa.P
end
section
namespace Go.Proofs.Ytckempgpaojljaa.P
open Go.RowKit Go.Proofs.YtckempgpaojljaaW.PrintWords Go.Proofs.YtckempgpaojljaaW.PrintLast Go.Proofs.YtckempgpaojljaaW.PrintMore
attribute [local go_sem] max2_int min2_int max_two min_two max_three min_three max_four min_four   -- for this text's walks alone
set_option linter.unusedVariables false
set_option linter.unusedSimpArgs false
end Go.Proofs.Ytckempgpaojljaa.P
end
section
/- The reference's functions answer as the program's wrappers: ReadIn, MergeIn, ChooseIn. -/
namespace Go.Proofs.Ytckempgpaojljaa.P
set_option linter.unusedVariables false
set_option linter.unusedSimpArgs false
open Go.RowKit Go.Proofs.YtckempgpaojljaaW.PrintWords Go.Proofs.YtckempgpaojljaaW.PrintLast Go.Proofs.YtckempgpaojljaaW.PrintMore
end Go.Proofs.Ytckempgpaojljaa.P
end
section
namespace Go.Proofs.Ytckempgpaojljaa.P
open Go.RowKit Go.Proofs.YtckempgpaojljaaW.PrintWords Go.Proofs.YtckempgpaojljaaW.PrintLast Go.Proofs.YtckempgpaojljaaW.PrintMore
attribute [local go_sem] max2_int min2_int max_two min_two max_three min_three max_four min_four   -- for this text's walks alone
set_option linter.unusedVariables false
set_option linter.unusedSimpArgs false
end Go.Proofs.Ytckempgpaojljaa.P
end
section
/- The reference's AfterIn answers as the program's wrapper. -/
namespace Go.Proofs.Ytckempgpaojljaa.P
set_option linter.unusedVariables false
set_option linter.unusedSimpArgs false
open Go.RowKit Go.Proofs.YtckempgpaojljaaW.PrintWords Go.Proofs.YtckempgpaojljaaW.PrintLast Go.Proofs.YtckempgpaojljaaW.PrintMore
end Go.Proofs.Ytckempgpaojljaa.P
end
section
/- The reference's WorthIn, walked by hand; the results of all in one form. -/
namespace Go.Proofs.Ytckempgpaojljaa.P
set_option linter.unusedVariables false
set_option linter.unusedSimpArgs false
open Go.RowKit Go.Proofs.YtckempgpaojljaaW.PrintWords Go.Proofs.YtckempgpaojljaaW.PrintLast Go.Proofs.YtckempgpaojljaaW.PrintMore
attribute [local go_sem] Oper.semAt_some
end Go.Proofs.Ytckempgpaojljaa.P
end
section
/- The calls of the law CostMatchesReference, in one form. -/
namespace Go.Proofs.Ytckempgpaojljaa.P
set_option linter.unusedVariables false
set_option linter.unusedSimpArgs false
open Go.RowKit Go.Proofs.YtckempgpaojljaaW.PrintWords Go.Proofs.YtckempgpaojljaaW.PrintLast Go.Proofs.YtckempgpaojljaaW.PrintMore
end Go.Proofs.Ytckempgpaojljaa.P
end
