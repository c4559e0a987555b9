/- Parts of a proof, laid together: He6. -/
import Derived.Test.YtckempgpaojljaaMc2
import Derived.Laws.Cover3
section
/- The contract of cost.After. -/
namespace Go.Proofs.Ytckempgpaojljaa.P
set_option linter.unusedVariables false
set_option linter.unusedSimpArgs false
open Go.RowKit Go.Proofs.YtckempgpaojljaaW.PrintWords Go.Proofs.YtckempgpaojljaaW.PrintLast Go.Proofs.YtckempgpaojljaaW.PrintMore

/-- A list of numbers is set at the places that it names; none if one is taken. -/
def claim1 (g : List Int) : List Int → List (List Int) → Option (List (List Int))
  | [], ow => some ow
  | i :: is, ow => if (ow.getD i.toNat []).isEmpty then claim1 g is (ow.set i.toNat g) else none
/-- Who owns each piece. -/
def owners (n : Nat) : List (List Int) → List (List Int) → Option (List (List Int))
  | [], ow => some ow
  | g :: G, ow => if okG n g then (match claim1 g g ow with
    | none => none
    | some ow' => owners n G ow') else none
/-- What becomes of a piece. -/
def aftP (l : List S59) (ow : List (List Int)) (k : Nat) : List S59 :=
  if (ow.getD k []).isEmpty then [rd_T59 l k]
  else if (ow.getD k []).getD 0 0 = (k : Int) then [⟨sumG (fun i => (rd_T59 l i).f0) (ow.getD k []), sumG (fun i => (rd_T59 l i).f1) (ow.getD k [])⟩] else []
/-- The first k pieces' part of what comes out. -/
def aftK (l : List S59) (ow : List (List Int)) (k : Nat) : List S59 := (List.range k).flatMap (aftP l ow)
/-- The pieces after merging. -/
def afterL (l : List S59) (G : List (List Int)) : Option (List S59) := (owners l.length G (List.replicate l.length [])).map fun ow => aftK l ow l.length

theorem aftK_zero (l : List S59) (ow : List (List Int)) : aftK l ow 0 = [] := rfl
theorem aftK_succ (l : List S59) (ow : List (List Int)) (k : Nat) : aftK l ow (k + 1) = aftK l ow k ++ aftP l ow k := by
  simp [aftK, List.range_succ]
theorem aftP_len (l : List S59) (ow : List (List Int)) (k : Nat) : (aftP l ow k).length ≤ 1 := by
  unfold aftP
  split
  · simp
  · split <;> simp
theorem aftK_len (l : List S59) (ow : List (List Int)) (k : Nat) : (aftK l ow k).length ≤ k := by
  induction k with
  | zero => simp [aftK]
  | succ k ih =>
    rw [aftK_succ, List.length_append]
    have := aftP_len l ow k
    omega

/-- What is told of the owners' row while it is filled. -/
structure OwI (w : World) (A : Option Addr) (c : Nat) (l : List S59) (o : Nat) (ow : List (List Int)) (W : World) : Prop where
  lo : w.heap.size < o
  len : ow.length = l.length
  blk : ∃ cur : Array Value, W.heap[o]? = some (.cells cur 26 (0, 0)) ∧ cur.size = l.length ∧ ∀ (i : Nat) (x : List Int), ow[i]? = some x → ∃ (B : Option Addr) (d : Nat), cur[i]? = some (.slice B x.length d) ∧ B.isNone = x.isEmpty ∧ x.length ≤ d ∧ Kd.C (Kd.int .i64) w B x.length x
  box : W.heap[w.heap.size]? = some (.cells #[.slice A l.length c] 30 (0, 0))
  below : Below w.heap.size w W
  val : ∀ (i : Nat) (x : List Int), ow[i]? = some x → x = [] ∨ okG l.length x = true

theorem OwI.step {w : World} {A : Option Addr} {c : Nat} {l : List S59} {o : Nat} {ow : List (List Int)} {W W' : World} (h : OwI w A c l o ow W) (hb : Below W.heap.size W W') : OwI w A c l o ow W' := by
  obtain ⟨cur, h1, h2, h3⟩ := h.blk
  exact ⟨h.lo, h.len, ⟨cur, (hb.block _ (hq_lt h1)).trans h1, h2, h3⟩, (hb.block _ (hq_lt h.box)).trans h.box, h.below.trans (hb.mono h.below.size), h.val⟩

theorem OwI.get {w : World} {A : Option Addr} {c : Nat} {l : List S59} {o : Nat} {ow : List (List Int)} {W : World} (h : OwI w A c l o ow W) {i : Nat} (hi : i < l.length) :
    ∃ (B : Option Addr) (d : Nat), W.cell? ⟨o, i, none⟩ = some (.slice B (ow.getD i []).length d) ∧ W.frozen? ⟨o, i, none⟩ = false ∧ B.isNone = (ow.getD i []).isEmpty ∧ (ow.getD i []).length ≤ d ∧ Kd.C (Kd.int .i64) w B (ow.getD i []).length (ow.getD i []) := by
  obtain ⟨cur, h1, h2, h3⟩ := h.blk
  have hx : ow[i]? = some (ow.getD i []) := by simp [List.getD_eq_getElem?_getD, h.len, hi]
  obtain ⟨B, d, h4, h5, h6, h7⟩ := h3 i _ hx
  exact ⟨B, d, hq_cell h1 i _ h4, blk_free h1 i, h5, h6, h7⟩

theorem OwI.put {w : World} {A : Option Addr} {c : Nat} {l : List S59} {o : Nat} {ow : List (List Int)} {W : World} (h : OwI w A c l o ow W) {i : Nat} (hi : i < l.length) {B : Option Addr} {d : Nat} {g : List Int} (h0 : B.isNone = g.isEmpty) (h1 : g.length ≤ d) (h2 : Kd.C (Kd.int .i64) w B g.length g) (h3 : okG l.length g = true) :
    OwI w A c l o (ow.set i g) (W.setCell ⟨o, i, none⟩ (.slice B g.length d)) := by
  obtain ⟨cur, e1, e2, e3⟩ := h.blk
  have e4 : (W.setCell ⟨o, i, none⟩ (.slice B g.length d)).heap[o]? = some (.cells (cur.setIfInBounds i (.slice B g.length d)) 26 (0, 0)) := heap_set_same W o i _ cur 26 e1
  refine ⟨h.lo, by simp [h.len], ⟨_, e4, by simp [e2], fun j x hx => ?_⟩, ?_, ?_, ?_⟩
  · rw [List.getElem?_set] at hx
    split at hx
    · rename_i e
      subst e
      split at hx
      · cases hx
        exact ⟨B, d, by simp [e2, hi], h0, h1, h2⟩
      · cases hx
    · rename_i e
      obtain ⟨B', d', h4, h5⟩ := e3 j x hx
      exact ⟨B', d', by rw [Array.getElem?_setIfInBounds_ne e]; exact h4, h5⟩
  · rw [Below.heap_setCell W ⟨o, i, none⟩ _ _ (by have := h.lo; show w.heap.size ≠ o; omega)]
    exact h.box
  · exact h.below.setCell (p := ⟨o, i, none⟩) (Nat.le_of_lt h.lo) _
  · intro j x hx
    rw [List.getElem?_set] at hx
    split at hx
    · split at hx
      · cases hx
        exact .inr h3
      · cases hx
    · exact h.val j x hx

theorem clo53 (A : Option Addr) (c : Nat) (l : List S59) (b : Nat) (i : Int) (W : World) (hb : W.heap[b]? = some (.cells #[.slice A l.length c] 30 (0, 0))) (hr : Kd.C k59 W A l.length l) (hc : l.length ≤ c) (hi : 0 ≤ i ∧ i < l.length) :
    Calls Try.prog 53 #[.int .i64 i, .pointer (some ⟨b, 0, none⟩)] W fun e W' => e = .returned (.int .i64 (rd_T59 l i).f0) ∧ W' = W := by
  obtain ⟨ad, rfl, h0, h1⟩ := at_T59 hr i hi.1 hi.2
  have hl : l.length ≤ 9223372036854775807 := hr.2.1
  have hcell := hq_cell hb 0 _ rfl
  obtain ⟨hi0, hi1⟩ := hi
  clear hb hr
  generalize (rd_T59 l i).f0 = y at *
  go_enter Try.func53, Try.ntmps53
  go_wp2
  go_ret
  exact ⟨rfl, rfl⟩
theorem clo54 (A : Option Addr) (c : Nat) (l : List S59) (b : Nat) (i : Int) (W : World) (hb : W.heap[b]? = some (.cells #[.slice A l.length c] 30 (0, 0))) (hr : Kd.C k59 W A l.length l) (hc : l.length ≤ c) (hi : 0 ≤ i ∧ i < l.length) :
    Calls Try.prog 54 #[.int .i64 i, .pointer (some ⟨b, 0, none⟩)] W fun e W' => e = .returned (.int .i64 (rd_T59 l i).f1) ∧ W' = W := by
  obtain ⟨ad, rfl, h0, h1⟩ := at_T59 hr i hi.1 hi.2
  have hl : l.length ≤ 9223372036854775807 := hr.2.1
  have hcell := hq_cell hb 0 _ rfl
  obtain ⟨hi0, hi1⟩ := hi
  clear hb hr
  generalize (rd_T59 l i).f1 = y at *
  go_enter Try.func54, Try.ntmps54
  go_wp2
  go_ret
  exact ⟨rfl, rfl⟩

/-- What After answers. -/
def AfPost (w : World) (r : Option (List S59)) (e : Ending) (w' : World) : Prop := ∃ v, e = .returned (.tuple #[v, .int .i64 (if r.isSome then 0 else 1)]) ∧ Kd.R k59 59 w' w.heap.size (fun _ => True) v (r.getD []) ∧ Below w.heap.size w w'

theorem AfPost.cast {w : World} {r r' : Option (List S59)} {e : Ending} {w' : World} (h : r = r') (H : AfPost w r' e w') : AfPost w r e w' := h ▸ H

theorem neq26 (a : Option Addr) (n c : Nat) (w : World) : (binOp .neq 26 (.slice a n c) (.slice none 0 0)).run Try.prog w = .ok (.bool (!a.isNone)) w := run_neq_slice_nil w 26 3 a n c Try.underlying26
theorem eql26 (a : Option Addr) (n c : Nat) (w : World) : (binOp .eql 26 (.slice a n c) (.slice none 0 0)).run Try.prog w = .ok (.bool a.isNone) w := by
  simp only [binOp]
  simp [run_equal_slice_nil w 26 3 a n c Try.underlying26]

theorem make26 (n : Nat) (hn : n ≤ 512) (w : World) : (Instr.makeSlice 24 (.int .i64 n) (.int .i64 n)).run Try.prog w = .ok (.slice (some ⟨w.heap.size, 0, none⟩) n n) (w.alloc (.cells (madeCells #[.slice none 0 0] n) 26)) := by
  obtain ⟨i, hi, hz⟩ := Option.map_eq_some_iff.1 info26
  simp only [Prod.mk.injEq] at hz
  have := run_make (P := Try.prog) w 24 26 i (.slice none 0 0) Try.underlying24 hi hz.1 .i64 .i64 (n : Int) (n : Int) (by omega) (by omega) (by rw [hz.2.2]; omega) (by omega)
  rw [hz.2.1, Nat.mul_one] at this
  exact this

theorem after_bad (A B : Option Addr) (c d : Nat) (l : List S59) (G : List (List Int)) (w : World) (hr : Kd.C k59 w A l.length l) (hc : l.length ≤ c) (hv : validL l = false) :
    Calls Try.prog 36 #[.slice A l.length c, .slice B G.length d] w (AfPost w none) := by
  have HR := Aside0.mk hr
  have HV := Aside0.mk hv
  clear hr hv
  go_enter Try.func36, Try.ntmps36
  go_wp2_with (fail)
  have HB1 : Aside0 (Below w.heap.size w (w.alloc (.cells #[.slice A l.length c] 30 (0, 0)))) := ⟨(Below.refl _ _).alloc (Nat.le_refl _) _⟩
  have hcon := valid11 A c l _ (Kd.C_below HR.out HB1.out) hc
  rw [HV.out] at hcon
  refine hcon.mono ?_
  rintro e w1 ⟨rfl, hb⟩
  have HB2 := Aside0.mk (below_step HB1.out hb)
  clear hb hcon
  go_wp2
  go_ret2
  exact ⟨_, rfl, Kd.R_nil _ _ _ _ _, HB2.out⟩

theorem own_start (w W : World) (A : Option Addr) (c : Nat) (l : List S59) (hX : W.heap[w.heap.size]? = some (.cells #[.slice A l.length c] 30 (0, 0))) (hB : Below w.heap.size w W) :
    OwI w A c l W.heap.size (List.replicate l.length []) (W.alloc (.cells (madeCells #[.slice none 0 0] l.length) 26)) := by
  refine ⟨hq_lt hX, by simp, ⟨_, heap_alloc_new _ _, by simp [size_madeCells], fun i x hx => ?_⟩, ?_, hB.alloc hB.size _, fun i x hx => by
    rw [List.getElem?_replicate] at hx
    split at hx
    · cases hx; exact .inl rfl
    · cases hx⟩
  · rw [List.getElem?_replicate] at hx
    split at hx
    · rename_i hi
      cases hx
      refine ⟨none, 0, ?_, rfl, by simp, Kd.C_nil _ _⟩
      have := toList_madeCells_one (.slice none 0 0) l.length
      have h2 := congrArg (fun l => l[i]?) this
      simpa [hi] using h2
    · cases hx
  · rw [heap_alloc_old W _ (hq_lt hX)]
    exact hX

theorem OwI.grown {w : World} {A : Option Addr} {c : Nat} {l : List S59} {o : Nat} {ow : List (List Int)} {W W' : World} (h : OwI w A c l o ow W) {row : Option Nat} (hg : W.grownBy W' row) (h1 : some o ≠ row) (h2 : some w.heap.size ≠ row) (hb : Below w.heap.size w W') : OwI w A c l o ow W' := by
  obtain ⟨cur, e1, e2, e3⟩ := h.blk
  exact ⟨h.lo, h.len, ⟨cur, (hg.block _ (hq_lt e1) h1).trans e1, e2, e3⟩, (hg.block _ (hq_lt h.box) h2).trans h.box, hb, h.val⟩
theorem OwI.blk_o {w : World} {A : Option Addr} {c : Nat} {l : List S59} {o : Nat} {ow : List (List Int)} {W : World} (h : OwI w A c l o ow W) : ∃ cur : Array Value, W.heap[o]? = some (.cells cur 26 (0, 0)) := by
  obtain ⟨cur, e1, _⟩ := h.blk
  exact ⟨cur, e1⟩

theorem OwI.app {w : World} {A : Option Addr} {c : Nat} {l : List S59} {o : Nat} {ow : List (List Int)} {W W' : World} (h : OwI w A c l o ow W) {base : Nat} {ok : Nat → Prop} {v : Value} {out : List S59} (hv : Kd.R k59 59 W base ok v out) (hg : W.grownBy W' v.ownBlock) (hb : Below w.heap.size w W') : OwI w A c l o ow W' := by
  obtain ⟨cur, e1⟩ := h.blk_o
  exact h.grown hg (Kd.R_ne hv e1 (by decide)) (Kd.R_ne hv h.box (by decide)) hb

/-- The equation of the inner loop. -/
def InEq (n : Nat) (R : Option (List (List Int))) (G : List (List Int)) (k : Nat) (g is : List Int) (ow : List (List Int)) : Prop := R = (claim1 g is ow).bind fun ow' => owners n (G.drop (k + 1)) ow'
theorem InEq.start {n : Nat} {R : Option (List (List Int))} {G : List (List Int)} {k : Nat} {g : List Int} {ow : List (List Int)} (h : R = owners n (G.drop k) ow) (hg : G[k]? = some g) (hok : okG n g = true) : InEq n R G k g (g.drop 0) ow := by
  rw [drop_get hg] at h
  unfold InEq
  rw [h]
  show (if okG n g = true then (match claim1 g g ow with
    | none => none
    | some ow' => owners n (G.drop (k + 1)) ow') else none) = (claim1 g g ow).bind fun ow' => owners n (G.drop (k + 1)) ow'
  rw [if_pos hok]
  cases claim1 g g ow <;> rfl
theorem InEq.hit {n : Nat} {R : Option (List (List Int))} {G : List (List Int)} {k : Nat} {g : List Int} {ow : List (List Int)} {m : Nat} {i : Int} (h : InEq n R G k g (g.drop m) ow) (hi : g[m]? = some i) (ho : (ow.getD i.toNat []).isEmpty = false) : R = none := by
  unfold InEq at h
  rw [h, drop_get hi]
  simp only [claim1, ho, Bool.false_eq_true, if_false, Option.bind_none]
theorem InEq.step {n : Nat} {R : Option (List (List Int))} {G : List (List Int)} {k : Nat} {g : List Int} {ow : List (List Int)} {m : Nat} {i : Int} (h : InEq n R G k g (g.drop m) ow) (hi : g[m]? = some i) (ho : (ow.getD i.toNat []).isEmpty = true) : InEq n R G k g (g.drop (m + 1)) (ow.set i.toNat g) := by
  unfold InEq at *
  rw [h, drop_get hi]
  simp only [claim1, ho, if_true]
theorem InEq.done {n : Nat} {R : Option (List (List Int))} {G : List (List Int)} {k : Nat} {g : List Int} {ow : List (List Int)} (h : InEq n R G k g (g.drop g.length) ow) : R = owners n (G.drop (k + 1)) ow := by
  unfold InEq at h
  rw [h, List.drop_length]
  rfl

set_option maxRecDepth 100000 in
set_option maxHeartbeats 4000000 in
theorem after_good (A B : Option Addr) (c d : Nat) (l : List S59) (G : List (List Int)) (w : World) (hr : Kd.C k59 w A l.length l) (hc : l.length ≤ c) (hG : Kd.C (Kd.slice 3 (Kd.int .i64)) w B G.length G) (hd : G.length ≤ d) (hv : validL l = true) :
    Calls Try.prog 36 #[.slice A l.length c, .slice B G.length d] w (AfPost w (afterL l G)) := by
  obtain ⟨hl5, hm⟩ := valid_mem hv
  have hGl : G.length ≤ 9223372036854775807 := hG.2.1
  have HM := Aside0.mk hm
  have HR := Aside0.mk hr
  have HG := Aside0.mk hG
  have HV := Aside0.mk hv
  clear hm hr hG hv
  go_enter Try.func36, Try.ntmps36
  go_wp2_with (fail)
  have HB1 : Aside0 (Below w.heap.size w (w.alloc (.cells #[.slice A l.length c] 30 (0, 0)))) := ⟨(Below.refl _ _).alloc (Nat.le_refl _) _⟩
  have HX : Aside0 ((w.alloc (.cells #[.slice A l.length c] 30 (0, 0))).heap[w.heap.size]? = some (.cells #[.slice A l.length c] 30 (0, 0))) := ⟨heap_alloc_new _ _⟩
  have hcon := valid11 A c l _ (Kd.C_below HR.out HB1.out) hc
  rw [HV.out] at hcon
  refine hcon.mono ?_
  rintro e w1 ⟨rfl, hb⟩
  have HB2 := Aside0.mk (below_step HB1.out hb)
  have HX1 := Aside0.mk ((hb.block _ (hq_lt HX.out)).trans HX.out)
  have hcell := hq_cell HX1.out 0 _ rfl
  simp only [List.getElem_toArray, List.getElem_cons_zero] at hcell
  have hmk := make26 l.length hl5 w1
  have HO := Aside0.mk (own_start w w1 A c l HX1.out HB2.out)
  obtain ⟨o, ho⟩ : ∃ o, o = w1.heap.size := ⟨_, rfl⟩
  obtain ⟨w2, hw2⟩ : ∃ w2, w2 = w1.alloc (.cells (madeCells #[.slice none 0 0] l.length) 26) := ⟨_, rfl⟩
  rw [← ho, ← hw2] at HO hmk
  clear hb hcon HX HB1 ho hw2
  go_wp2
  have HN : Aside0 (afterL l G = (owners l.length G (List.replicate l.length [])).map fun ow => aftK l ow l.length) := ⟨rfl⟩
  clear hcell hmk HX1
  go_loopw [23] (fun v23 w' => ∃ (k : Nat) (ow : List (List Int)), k ≤ G.length ∧ v23 = .int .i64 k ∧ Aside0 (owners l.length G (List.replicate l.length []) = owners l.length (G.drop k) ow) ∧ Aside0 (OwI w A c l o ow w')) (fun v23 _ => G.length - (intOf v23).toNat)
  case atStart => exact ⟨0, _, by omega, rfl, ⟨rfl⟩, HO⟩
  case round =>
    clear HO
    obtain ⟨k, ow, hk, rfl, HE, HO⟩ := hrel
    by_cases hlt : k < G.length
    · obtain ⟨g, hg⟩ : ∃ g, G[k]? = some g := ⟨_, List.getElem?_eq_getElem hlt⟩
      obtain ⟨ad, A0, c0, rfl, h0, hgc, hgC⟩ := rr_read (Kd.C_below HG.out HO.out.below) k hlt hg
      obtain ⟨_, _, _, e0, h0w, _, hgw⟩ := rr_read HG.out k hlt hg
      cases e0
      have e1 := (HO.out.below.cell (World.block_lt_of_cell? w _ h0w)).trans h0w
      rw [h0] at e1
      cases e1
      have HGW := Aside0.mk hgw
      have HDR := Aside0.mk (drop_get hg)
      have hcell := hq_cell HO.out.box 0 _ rfl
      simp only [List.getElem_toArray, List.getElem_cons_zero] at hcell
      have hcon := group51 A A0 c c0 l g _ (by omega) hc hgC hgc
      have HGG := Aside0.mk hg
      clear hg hgC hgw h0w
      cases hok : okG l.length g with
      | false =>
        rw [hok] at hcon
        have HOK := Aside0.mk hok
        clear hok
        go_wp2_with (fail)
        refine hcon.mono ?_
        rintro e w3 ⟨rfl, hb⟩
        have HB3 := Aside0.mk (HO.out.below.trans (hb.mono HO.out.below.size))
        have hres : afterL l G = none := by
          rw [HN.out, HE.out, HDR.out]
          simp [owners, HOK.out]
        have HRES := Aside0.mk hres
        clear hres
        clear hb hcon hcell h0
        go_wp2
        go_ret2
        exact AfPost.cast HRES.out ⟨_, rfl, Kd.R_nil _ _ _ _ _, HB3.out⟩
      | true =>
        rw [hok] at hcon
        have HOK := Aside0.mk hok
        obtain ⟨hg0, hgl⟩ := okG_len hok
        clear hok
        go_wp2_with (fail)
        refine hcon.mono ?_
        rintro e w3 ⟨rfl, hb⟩
        have HO3 := Aside0.mk (HO.out.step hb)
        clear hb hcon hcell h0 HO
        go_wp2
        have HE3 := Aside0.mk (InEq.start HE.out HGG.out HOK.out)
        clear HE HDR
        have hbd := okG_bd HOK.out
        have HBD := Aside0.mk hbd
        clear hbd
        go_loopw [33] (fun v33 w' => ∃ (m : Nat) (ow : List (List Int)), m ≤ g.length ∧ v33 = .int .i64 m ∧ Aside0 (InEq l.length (owners l.length G (List.replicate l.length [])) G k g (g.drop m) ow) ∧ Aside0 (OwI w A c l o ow w')) (fun v33 _ => g.length - (intOf v33).toNat)
        case atStart => exact ⟨0, _, by omega, rfl, HE3, HO3⟩
        case round =>
          clear HE3 HO3
          obtain ⟨m, ow, hm, rfl, HE, HO⟩ := hrel
          by_cases hlt2 : m < g.length
          · obtain ⟨ad2, rfl, h0⟩ := Kd.at_int HGW.out (m : Int) (by omega) (by omega)
            replace h0 := (HO.out.below.cell (World.block_lt_of_cell? w _ h0)).trans h0
            simp only [Int.toNat_natCast] at h0
            have HI := Aside0.mk (at_getI hlt2)
            generalize rd g m = i at h0 HI
            obtain ⟨i0, i1⟩ := HBD.out i (List.mem_of_getElem? HI.out)
            obtain ⟨D, dd, hc1, hc2, hnil, _, _⟩ := HO.out.get (i := i.toNat) (by omega)
            have HNIL := Aside0.mk hnil
            have hU := neq26 D (ow.getD i.toNat []).length dd wr
            cases hD : D.isNone with
            | false =>
              rw [hD] at hU hnil
              have hres : afterL l G = none := by
                rw [HN.out, HE.out.hit HI.out hnil.symm]
                rfl
              have HRES := Aside0.mk hres
              clear hres
              have HB3 := Aside0.mk HO.out.below
              clear hnil hD
              generalize (ow.getD i.toNat []).length = q at *
              go_wp2
              go_ret2
              exact AfPost.cast HRES.out ⟨_, rfl, Kd.R_nil _ _ _ _ _, HB3.out⟩
            | true =>
              rw [hD] at hU hnil
              have HE2 := Aside0.mk (HE.out.step HI.out hnil.symm)
              have HO2 := Aside0.mk (HO.out.put (i := i.toNat) (by omega) (B := some ad2) (d := c0) (g := g) (by rw [List.isEmpty_eq_false_iff.2 (List.ne_nil_of_length_pos hg0)]; rfl) hgc HGW.out HOK.out)
              clear hnil hD
              generalize (ow.getD i.toNat []).length = q at *
              go_wp2
              go_roundw
              case rel => exact ⟨m + 1, _, by omega, by go_num, HE2, HO2⟩
              case measure => simp [intOf]; omega
          · obtain rfl : m = g.length := by omega
            have HE2 := Aside0.mk HE.out.done
            go_wp2
            go_roundw
            case rel => exact ⟨k + 1, ow, by omega, by go_num, HE2, HO⟩
            case measure => simp [intOf]; omega
    · obtain rfl : k = G.length := by omega
      have hR : owners l.length G (List.replicate l.length []) = some ow := by rw [HE.out, List.drop_length]; rfl
      rw [hR] at HN
      have hres : afterL l G = some (aftK l ow l.length) := HN.out
      have HRES := Aside0.mk hres
      clear hres
      have hbox := HO.out.box
      have hcell := hq_cell hbox 0 _ rfl
      simp only [List.getElem_toArray, List.getElem_cons_zero] at hcell
      clear HN HE hR hbox
      go_wp2
      go_loopw [50, 11] (fun v50 v11 w' => ∃ (k : Nat), k ≤ l.length ∧ v50 = .int .i64 k ∧ Aside0 (OwI w A c l o ow w') ∧ Aside0 (Kd.R k59 59 w' w.heap.size (fun _ => True) v11 (aftK l ow k))) (fun v50 _ _ => l.length - (intOf v50).toNat)
      case atStart => exact ⟨0, by omega, rfl, HO, ⟨Kd.R_nil _ _ _ _ _⟩⟩
      case round =>
        clear HO hcell
        obtain ⟨k, hk2, rfl, HO, HV2⟩ := hrel
        by_cases hlt2 : k < l.length
        · obtain ⟨ad, rfl, h0, h1⟩ := at_T59 HR.out (k : Int) (by omega) (by omega)
          replace h0 := (HO.out.below.cell (World.block_lt_of_cell? w _ h0)).trans h0
          replace h1 := (HO.out.below.cell (World.block_lt_of_cell? w _ h1)).trans h1
          simp only [Int.toNat_natCast] at h0 h1
          obtain ⟨D, dd, hc1, hc2, hnil, hdl, hDC⟩ := HO.out.get (i := k) hlt2
          have HNIL := Aside0.mk hnil
          have HDC := Aside0.mk hDC
          have HK := Aside0.mk (aftK_succ l ow k)
          have HKL := aftK_len l ow k
          have hbk := HO.out.below
          have hbx := HO.out.box
          obtain ⟨cur, hbo⟩ := HO.out.blk_o
          have HBK := Aside0.mk hbk
          have HBX := Aside0.mk hbx
          have HBO := Aside0.mk hbo
          have hoo := HO.out.lo
          clear hDC hbk hbx hbo
          obtain ⟨x, hx⟩ : ∃ x, x = ow.getD k [] := ⟨_, rfl⟩
          rw [← hx] at hc1 hdl HDC HNIL hnil
          obtain ⟨out, hout⟩ : ∃ out, out = aftK l ow k := ⟨_, rfl⟩
          rw [← hout] at HK HV2 HKL
          obtain ⟨p, hp⟩ : ∃ p, p = rd_T59 l k := ⟨_, rfl⟩
          rw [← hp] at h0 h1
          have HP := Aside0.mk hp
          have HXE := Aside0.mk hx
          clear hp hout hx
          have hal := alloc_size wr (.cells #[.int .i64 p.f0, .int .i64 p.f1] 59)
          have HO4 := Aside0.mk (HO.out.step (below_alloc (Below.refl wr.heap.size wr) (.cells #[.int .i64 p.f0, .int .i64 p.f1] 59)))
          have HV4 := Aside0.mk (Kd.R_alloc HV2.out (.cells #[.int .i64 p.f0, .int .i64 p.f1] 59))
          have hE := fun W => eql26 D x.length dd W
          have hc1b : (wr.alloc (.cells #[.int .i64 p.f0, .int .i64 p.f1] 59)).cell? ⟨o, k, none⟩ = some (.slice D x.length dd) := ((below_alloc (Below.refl wr.heap.size wr) _).cell (World.block_lt_of_cell? wr _ hc1)).trans hc1
          clear hc1 hc2
          cases hD : D.isNone with
          | true =>
            rw [hD] at hE hnil
            have hone : aftP l ow k = [p] := by
              unfold aftP
              rw [← HXE.out, ← hnil, HP.out]
              rfl
            rw [hone] at HK
            clear hone hnil hD
            go_wp2_with (at_builtin; refine Kd.R_append k59 (w0 := w) w.heap.size rfl (.tmp 62) (.tmp 64) 30 59 (.agg #[.int .i64 0, .int .i64 0]) 16 rfl Try.underlying30 info59 rfl (by decide) (by decide) _ out p [.int .i64 p.f0, .int .i64 p.f1] (fun _ => True) (fun _ => False) rfl (by rw [hal]; rfl) ?aP ?aK ?aF ?aO ?aB ?aS ?aL ?_; (case aP => exact k59_mkM _ _ _ p); (case aK => exact fun b hb => hb.elim); (case aF => exact fun _ _ => trivial); (case aO => exact HV4.out); (case aB => exact HO4.out.below); (case aS => rw [hal]; have := HBK.out.size; omega); (case aL => omega); intro v1 w5 ho hb hg5 hat; have HO5 := Aside0.mk ho; have HB5 := Aside0.mk hb; have HG5 := Aside0.mk hg5; clear ho hb hg5 hat)
            have hn : OwI w (some ad) c l o ow w5 := HO4.out.app HV4.out HG5.out HB5.out
            have HN2 := Aside0.mk hn
            rw [← HK.out] at HO5
            clear hn
            go_roundw
            case rel => exact ⟨k + 1, by omega, by go_num, HN2, HO5⟩
            case measure => simp [intOf]; omega
          | false =>
            rw [hD] at hE hnil
            have hxe : x ≠ [] := fun e => by rw [e] at hnil; cases hnil
            have hx0 : 0 < x.length := List.length_pos_iff.2 hxe
            obtain ⟨ad2, rfl, h2⟩ := Kd.at_int HDC.out 0 (by omega) (by omega)
            replace h2 := (HO4.out.below.cell (World.block_lt_of_cell? w _ h2)).trans h2
            rw [show ad2.add (0 : Int).toNat = ad2 from by cases ad2; rfl] at h2
            have HX0 : Aside0 (rd x 0 = x.getD 0 0) := ⟨rfl⟩
            generalize rd x 0 = y at h2 HX0
            have hnem : (ow.getD k []).isEmpty = false := by rw [← HXE.out]; exact hnil.symm
            by_cases hy : y = (k : Int)
            · have hone : aftP l ow k = [⟨sumG (fun i => (rd_T59 l i).f0) x, sumG (fun i => (rd_T59 l i).f1) x⟩] := by
                unfold aftP
                rw [hnem, ← HXE.out, ← HX0.out, if_neg (by decide), if_pos hy]
              rw [hone] at HK
              clear hone hnil hD hnem
              have hokx : okG l.length x = true := by
                rcases HO.out.val k x (by rw [HXE.out]; simp [List.getD_eq_getElem?_getD, HO.out.len, hlt2]) with e | e
                · exact absurd e hxe
                · exact e
              have HOKX := Aside0.mk hokx
              obtain ⟨_, hxl⟩ := okG_len hokx
              have HAL : Aside0 (wr.heap.size + 1 = (wr.alloc (.cells #[.int .i64 p.f0, .int .i64 p.f1] 59)).heap.size) := ⟨hal.symm⟩
              obtain ⟨W, hW⟩ : ∃ W, W = wr.alloc (.cells #[.int .i64 p.f0, .int .i64 p.f1] 59) := ⟨_, rfl⟩
              have HS1 := Aside0.mk (sum52 53 w.heap.size (fun i => (rd_T59 l i).f0) (some ad2) dd x W (Kd.C_below HDC.out (by rw [hW]; exact HO4.out.below)) hdl (by omega) fn53 (fun i hi => by
                have hii := okG_bd HOKX.out i hi
                have := HM.out _ (rd_mem hii.1 hii.2)
                exact ⟨by omega, by omega, fun W' hW' => clo53 (some ad) c l w.heap.size i W' ((hW'.block _ (by rw [hW]; exact hq_lt HO4.out.box)).trans (by rw [hW]; exact HO4.out.box)) (Kd.C_below HR.out (HO4.out.below.trans (by rw [← hW]; exact hW'.mono (by rw [hW]; exact HO4.out.below.size)))) hc hii⟩))
              rw [hW] at HS1
              clear hokx hal
              go_wp2_with (fail)
              refine HS1.out.mono ?_
              rintro e w5 ⟨rfl, hb5⟩
              have HO5 := Aside0.mk (HO4.out.step hb5)
              have HV5 := Aside0.mk (Kd.R_below HV4.out hb5)
              clear hb5 HS1 h2 hc1b
              have HS2 := Aside0.mk (sum52 54 w.heap.size (fun i => (rd_T59 l i).f1) (some ad2) dd x w5 (Kd.C_below HDC.out HO5.out.below) hdl (by omega) fn54 (fun i hi => by
                have hii := okG_bd HOKX.out i hi
                have := HM.out _ (rd_mem hii.1 hii.2)
                exact ⟨by omega, by omega, fun W' hW' => clo54 (some ad) c l w.heap.size i W' ((hW'.block _ (hq_lt HO5.out.box)).trans HO5.out.box) (Kd.C_below HR.out (HO5.out.below.trans (hW'.mono HO5.out.below.size))) hc hii⟩))
              go_wp2_with (fail)
              refine HS2.out.mono ?_
              rintro e w6 ⟨rfl, hb6⟩
              have HO6 := Aside0.mk (HO5.out.step hb6)
              have HV6 := Aside0.mk (Kd.R_below HV5.out hb6)
              clear hb6 HS2
              generalize sumG (fun i => (rd_T59 l i).f0) x = s0 at HK ⊢
              generalize sumG (fun i => (rd_T59 l i).f1) x = s1 at HK ⊢
              go_wp2_with (at_builtin; refine Kd.R_append k59 (w0 := w) w.heap.size rfl (.tmp 72) (.tmp 80) 30 59 (.agg #[.int .i64 0, .int .i64 0]) 16 rfl Try.underlying30 info59 rfl (by decide) (by decide) _ out ⟨s0, s1⟩ [.int .i64 s0, .int .i64 s1] (fun _ => True) (fun _ => False) rfl rfl ?aP ?aK ?aF ?aO ?aB ?aS ?aL ?_; (case aP => exact k59_mkM _ _ _ ⟨s0, s1⟩); (case aK => exact fun b hb => hb.elim); (case aF => exact fun _ _ => trivial); (case aO => exact HV6.out); (case aB => exact HO6.out.below); (case aS => exact HO6.out.below.size); (case aL => omega); intro v1 w7 ho hb hg5 hat; have HO7 := Aside0.mk ho; have HB5 := Aside0.mk hb; have HG5 := Aside0.mk hg5; clear ho hb hg5 hat)
              have hn : OwI w (some ad) c l o ow w7 := HO6.out.app HV6.out HG5.out HB5.out
              have HN2 := Aside0.mk hn
              rw [← HK.out] at HO7
              clear hn
              go_roundw
              case rel => exact ⟨k + 1, by omega, by go_num, HN2, HO7⟩
              case measure => simp [intOf]; omega
            · have hone : aftP l ow k = [] := by
                unfold aftP
                rw [hnem, ← HXE.out, ← HX0.out, if_neg (by decide), if_neg hy]
              rw [hone, List.append_nil] at HK
              rw [← HK.out] at HV4
              clear hone hnil hD hnem
              go_wp2
              go_roundw
              case rel => exact ⟨k + 1, by omega, by go_num, HO4, HV4⟩
              case measure => simp [intOf]; omega
        · obtain rfl : k = l.length := by omega
          have HB9 := Aside0.mk HO.out.below
          go_wp2
          go_ret2
          exact AfPost.cast HRES.out ⟨_, rfl, HV2.out, HB9.out⟩

/-- In the printer's form. -/
def cost_After.f (l0 : List S59) (l1 : List (List Int)) : Option (List S59 × Int) := match (if validL l0 then afterL l0 l1 else none) with | some out => some (out, 0) | none => some ([], 1)
theorem cost_After.calls (A0 : Option Addr) (c0 : Nat) (l0 : List S59) (A1 : Option Addr) (c1 : Nat) (l1 : List (List Int)) (r1 : List S59) (r2 : Int) (w : World) (hr0 : Kd.C k59 w A0 l0.length l0) (hc0 : l0.length ≤ c0) (hr1 : Kd.C (Kd.slice 3 (Kd.int .i64)) w A1 l1.length l1) (hc1 : l1.length ≤ c1) (h : cost_After.f l0 l1 = some (r1, r2)) :
    Calls Try.prog 36 #[.slice A0 l0.length c0, .slice A1 l1.length c1] w fun e w' => ∃ v0_ : Value, e = .returned (.tuple #[v0_, .int .i64 r2]) ∧ Kd.R k59 59 w' w.heap.size (fun _ => True) v0_ r1 ∧ Below w.heap.size w w' := by
  have key : Calls Try.prog 36 #[.slice A0 l0.length c0, .slice A1 l1.length c1] w (AfPost w (if validL l0 then afterL l0 l1 else none)) := by
    cases hv : validL l0 with
    | true => exact after_good A0 A1 c0 c1 l0 l1 w hr0 hc0 hr1 hc1 hv
    | false => exact after_bad A0 A1 c0 c1 l0 l1 w hr0 hc0 hv
  unfold cost_After.f at h
  refine key.mono ?_
  rintro e w' ⟨v, he, hR, hB⟩
  cases hx : (if validL l0 then afterL l0 l1 else none) with
  | none =>
    rw [hx] at h he hR
    injection h with h
    injection h with h1 h2
    subst h1 h2
    exact ⟨v, he, hR, hB⟩
  | some out =>
    rw [hx] at h he hR
    injection h with h
    injection h with h1 h2
    subst h1 h2
    exact ⟨v, he, hR, hB⟩
end Go.Proofs.Ytckempgpaojljaa.P
end
