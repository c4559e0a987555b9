/- Parts of a proof, laid together: THh. -/
import Derived.Test.YtckempgpaojljaaMq4
section
/- The contract of chapmanlaw36.examples: it returns true. -/
namespace Go.Proofs.Ytckempgpaojljaa.P
set_option linter.unusedVariables false
set_option linter.unusedSimpArgs false
open Go.RowKit Go.Proofs.YtckempgpaojljaaW.PrintWords Go.Proofs.YtckempgpaojljaaW.PrintLast Go.Proofs.YtckempgpaojljaaW.PrintMore
abbrev u1 : S43 := ⟨1, 100⟩
abbrev u4 : S43 := ⟨4, 100⟩
theorem ex_u5 : ∃ k, chapmanlaw36_units.f k [1, 1, 1, 1, 1] = some [u1, u1, u1, u1, u1] := by
  obtain ⟨K, h⟩ := units_ev [1, 1, 1, 1, 1] (by decide)
  exact ⟨K, h K (Nat.le_refl _)⟩
theorem ex_u7 : ∃ k, chapmanlaw36_units.f k [4, 4, 4, 1, 1, 1, 1] = some [u4, u4, u4, u1, u1, u1, u1] := by
  obtain ⟨K, h⟩ := units_ev [4, 4, 4, 1, 1, 1, 1] (by decide)
  exact ⟨K, h K (Nat.le_refl _)⟩
theorem ex_u4 : ∃ k, chapmanlaw36_units.f k [1, 1, 1, 1] = some [u1, u1, u1, u1] := by
  obtain ⟨K, h⟩ := units_ev [1, 1, 1, 1] (by decide)
  exact ⟨K, h K (Nat.le_refl _)⟩
theorem ex_u2 : ∃ k, chapmanlaw36_units.f k [1, 1] = some [u1, u1] := by
  obtain ⟨K, h⟩ := units_ev [1, 1] (by decide)
  exact ⟨K, h K (Nat.le_refl _)⟩
theorem ex_u1 : ∃ k, chapmanlaw36_units.f k [1] = some [u1] := by
  obtain ⟨K, h⟩ := units_ev [1] (by decide)
  exact ⟨K, h K (Nat.le_refl _)⟩
theorem ex_u0 : ∃ k, chapmanlaw36_units.f k [0] = some [⟨0, 100⟩] := by
  obtain ⟨K, h⟩ := units_ev [0] (by decide)
  exact ⟨K, h K (Nat.le_refl _)⟩
theorem ex_c5 : ∃ k, chapmanlaw36_chosen.f k [u1, u1, u1, u1, u1] = some ([[0, 1, 2, 3]], [], 0, 0) := by
  obtain ⟨K, h⟩ := chosen_ev [u1, u1, u1, u1, u1] (by decide)
  refine ⟨K, (h K (Nat.le_refl _)).trans ?_⟩
  unfold chosenL
  rw [if_pos (by rfl)]
  show some (choose [⟨1, 100⟩, ⟨1, 100⟩, ⟨1, 100⟩, ⟨1, 100⟩, ⟨1, 100⟩], _) = _
  rw [choose5]
theorem ex_c7 : ∃ k, chapmanlaw36_chosen.f k [u4, u4, u4, u1, u1, u1, u1] = some ([[0, 1, 2, 3, 4, 5, 6]], [], 0, 0) := by
  obtain ⟨K, h⟩ := chosen_ev [u4, u4, u4, u1, u1, u1, u1] (by decide)
  refine ⟨K, (h K (Nat.le_refl _)).trans ?_⟩
  unfold chosenL
  rw [if_pos (by rfl)]
  show some (choose [⟨4, 100⟩, ⟨4, 100⟩, ⟨4, 100⟩, ⟨1, 100⟩, ⟨1, 100⟩, ⟨1, 100⟩, ⟨1, 100⟩], _) = _
  rw [choose7]
theorem ex_m4 : ∃ k, chapmanlaw36_merge.f k [u1, u1, u1, u1] [0, 1, 2, 3] = some ([], [], 21280, 0) := by
  obtain ⟨K, h⟩ := merge_ev [u1, u1, u1, u1] [0, 1, 2, 3] (by decide)
  exact ⟨K, (h K (Nat.le_refl _)).trans (by rfl)⟩
theorem ex_w2 : ∃ k, chapmanlaw36_worth.f k [u1, u1, u1, u1] 2 = some ([[0, 1, 2, 3]], [], 0, 0) := by
  obtain ⟨K, h⟩ := worth_ev [u1, u1, u1, u1] 2 (by decide)
  refine ⟨K, (h K (Nat.le_refl _)).trans ?_⟩
  unfold worthR
  rw [if_pos (by rfl)]
  unfold worthL
  show some ((choose [⟨1, 100⟩, ⟨1, 100⟩, ⟨1, 100⟩, ⟨1, 100⟩]).filter _, _) = _
  rw [choose4]
  rfl
theorem ex_w1 : ∃ k, chapmanlaw36_worth.f k [u1, u1, u1, u1] 1 = some ([], [], 0, 0) := by
  obtain ⟨K, h⟩ := worth_ev [u1, u1, u1, u1] 1 (by decide)
  refine ⟨K, (h K (Nat.le_refl _)).trans ?_⟩
  unfold worthR
  rw [if_pos (by rfl)]
  unfold worthL
  show some ((choose [⟨1, 100⟩, ⟨1, 100⟩, ⟨1, 100⟩, ⟨1, 100⟩]).filter _, _) = _
  rw [choose4]
  rfl
theorem ex_a5 : ∃ k, chapmanlaw36_after.f k [u1, u1, u1, u1, u1] [[0, 1, 2, 3]] = some ([], [⟨4, 400⟩, ⟨1, 100⟩], 0, 0) := by
  obtain ⟨K, h⟩ := after_ev [u1, u1, u1, u1, u1] [[0, 1, 2, 3]] (by decide)
  exact ⟨K, (h K (Nat.le_refl _)).trans (by rfl)⟩
theorem ex_r2 : ∃ k, chapmanlaw36_read.f k [u1, u1] = some ([], [], 8392, 0) := by
  obtain ⟨K, h⟩ := read_ev [u1, u1] (by decide)
  exact ⟨K, (h K (Nat.le_refl _)).trans (by rfl)⟩
theorem ex_r0 : ∃ k, chapmanlaw36_read.f k [⟨0, 100⟩] = some ([], [], 0, 1) := by
  obtain ⟨K, h⟩ := read_ev [⟨0, 100⟩] (by decide)
  exact ⟨K, (h K (Nat.le_refl _)).trans (by rfl)⟩
theorem ex_p1 : ∃ k, chapmanlaw36_pieces.f k [u1] = some [⟨1, 100⟩] := by
  obtain ⟨K, h⟩ := pieces_ev [u1] (by decide)
  exact ⟨K, (h K (Nat.le_refl _)).trans (by rfl)⟩
theorem ex_l (n r : Int) (h : n ≤ 100) (hr : lv n.toNat = r) : ∃ k, cost_Level.f k n = some r := by
  obtain ⟨K, hK⟩ := level_ev n (by omega)
  exact ⟨K, (hK K (Nat.le_refl _)).trans (by rw [hr])⟩
theorem ex_s (a : List (List Int)) (h : a.length ≤ 1000000) (hi : ∀ x ∈ a, x.length ≤ 1000000) : ∃ k, chapmanref36_SameGroups.f k a a = some true := by
  obtain ⟨K, hK⟩ := sameGroups_ev a a h hi
  exact ⟨K, (hK K (Nat.le_refl _)).trans (by rw [decide_eq_true rfl])⟩
theorem ex_p (a : List S43) (h : a.length ≤ 1000000) : ∃ k, chapmanref36_SamePieces.f k a a = some true := by
  obtain ⟨K, hK⟩ := samePieces_self a h
  exact ⟨K, hK K (Nat.le_refl _)⟩
theorem litR (W : World) (base : Nat) (xs : List Int) (hb : base ≤ W.heap.size) (hm : xs.length ≤ 1000) : Kd.R (Kd.int .i64) 3 (W.alloc (.cells (nums .i64 xs).toArray 3)) base (fun _ => True) (.slice (some ⟨W.heap.size, 0, none⟩) xs.length xs.length) xs :=
  Kd.R_of_own (own_lit_of (enc := Value.int .i64) W base 3 xs hb (by omega)) (fun _ _ => trivial)
theorem litRR (W : World) (base : Nat) {ok : Nat → Prop} {v : Value} {x : List Int} (hb : base ≤ W.heap.size) (hv : Kd.R (Kd.int .i64) 3 W base ok v x) : RR (W.alloc (.cells #[v] 26)) base (fun _ => True) (.slice (some ⟨W.heap.size, 0, none⟩) 1 1) [x] := by
  have hv2 : Kd.R (Kd.int .i64) 3 (W.alloc (.cells #[v] 26)) base (fun k => True ∧ some k ≠ (Value.slice (some ⟨W.heap.size, 0, none⟩) 1 1).ownBlock) v x := Kd.R_alloc (Kd.R_mono (Kd.R_bound hv) (fun k hk => ⟨trivial, fun e => by
    have h2 : k = W.heap.size := by simpa [Value.ownBlock] using e
    have := hk.2.2.1
    omega⟩)) _
  refine ⟨fun _ _ => trivial, [v], ⟨rfl, .inr ⟨W.heap.size, 1, #[v], rfl, hb, heap_alloc_new _ _, Nat.le_refl _, by decide, rfl, rfl⟩⟩, ?_⟩
  have := Reps.snoc (Reps.none ((Kd.slice 3 (Kd.int .i64)).M (W.alloc (.cells #[v] 26)) base (fun k => True ∧ some k ≠ (Value.slice (some ⟨W.heap.size, 0, none⟩) 1 1).ownBlock)) 1) (p := x) (c := [v]) ⟨v, rfl, hv2⟩ rfl
  exact this
structure ExI (w : World) (b1 b2 : Nat) (A1 : Option Addr) (c1 : Nat) (B1 : Option Addr) (d1 : Nat) (A2 : Option Addr) (c2 : Nat) (B2 : Option Addr) (d2 : Nat) (W : World) : Prop where
  below : Below w.heap.size w W
  lo1 : w.heap.size ≤ b1
  bx1 : W.heap[b1]? = some (.cells #[.slice A1 1 c1, .slice B1 0 d1, .int .i64 0, .int .i64 0] 36 (0, 0))
  bx2 : W.heap[b2]? = some (.cells #[.slice A2 1 c2, .slice B2 0 d2, .int .i64 0, .int .i64 0] 36 (0, 0))
  r1 : RR W w.heap.size (fun _ => True) (.slice A1 1 c1) [[0, 1, 2, 3]]
  r2 : RR W w.heap.size (fun _ => True) (.slice A2 1 c2) [[0, 1, 2, 3, 4, 5, 6]]
theorem ExI.step {w : World} {b1 b2 : Nat} {A1 : Option Addr} {c1 : Nat} {B1 : Option Addr} {d1 : Nat} {A2 : Option Addr} {c2 : Nat} {B2 : Option Addr} {d2 : Nat} {W W' : World} (h : ExI w b1 b2 A1 c1 B1 d1 A2 c2 B2 d2 W) (hb : Below W.heap.size W W') : ExI w b1 b2 A1 c1 B1 d1 A2 c2 B2 d2 W' :=
  ⟨h.below.trans (hb.mono h.below.size), h.lo1, (hb.block _ (hq_lt h.bx1)).trans h.bx1, (hb.block _ (hq_lt h.bx2)).trans h.bx2, Kd.R_below h.r1 hb, Kd.R_below h.r2 hb⟩
def ex4.T4 : Bool × List (List Nat × List Nat) := (true, [([], []), ([0], [0]), ([], []), ([1, 2, 1], [1, 2]), ([], []), ([4, 3], [4]), ([], []), ([6], [6]), ([5, 7, 5], [5, 7]), ([], []), ([], []), ([9, 3, 8, 0, 1, 2, 3, 9, 10], [3, 9]), ([10, 8, 11, 0, 1, 2, 3, 4, 5, 6, 7, 8, 9, 10, 11], [8, 10])])
def ex4.B4 : List Nat := [0, 1, 0, 7, 0, 31, 0, 64, 255, 0, 0, 2047, 4095]
theorem ex4.tab4 : rtab .any (opsOf Try.f9 4) = ex4.T4 := by kernel_rfl
theorem ex4.bits4 : waitsOk ex4.T4.2 ex4.B4 = true := by kernel_rfl
def updX (x : Nat → Value) (i : Nat) (v : Value) : Nat → Value := fun j => if j = i then v else x j
def L4 (x : Nat → Value) : List (Nat × Tmp × Value) := [(0, 46, x 0), (1, 47, x 1), (2, 48, x 2), (3, 49, x 3), (4, 50, x 4), (5, 51, x 5), (6, 52, x 6), (7, 53, x 7), (8, 54, x 8), (9, 3, x 9), (10, 4, x 10)]
def F4 (base b1 : Nat) (A2 : Option Addr) (c2 : Nat) (x : Nat → Value) (W : World) : Nat → Prop
  | 0 => Kd.R (Kd.int .i64) 3 W base (fun _ => True) (x 0) [1, 1, 1, 1]
  | 1 => Kd.R k43 43 W base (fun _ => True) (x 1) [u1, u1, u1, u1]
  | 2 => Kd.R (Kd.int .i64) 3 W base (fun _ => True) (x 2) [0, 1, 2, 3]
  | 3 => ∃ A c B d, x 3 = .agg #[.slice A 0 c, .slice B 0 d, .int .i64 21280, .int .i64 0]
  | 4 => Kd.R (Kd.int .i64) 3 W base (fun _ => True) (x 4) [1, 1, 1, 1, 1]
  | 5 => Kd.R k43 43 W base (fun _ => True) (x 5) [u1, u1, u1, u1, u1]
  | 6 => x 6 = .pointer (some ⟨b1, 0, none⟩)
  | 7 => x 7 = .slice A2 1 c2
  | 8 => ∃ A c B d, x 8 = .agg #[.slice A 0 c, .slice B 2 d, .int .i64 0, .int .i64 0] ∧ Kd.R k43 43 W base (fun _ => True) (.slice B 2 d) [⟨4, 400⟩, ⟨1, 100⟩]
  | 9 => ∃ b3, x 9 = .pointer (some ⟨b3, 0, none⟩) ∧ base ≤ b3 ∧ W.heap[b3]? = some (.cells #[.slice none 0 0, .slice none 0 0, .int .i64 0, .int .i64 0] 36 (0, 0))
  | 10 => ∃ b4, x 10 = .pointer (some ⟨b4, 0, none⟩) ∧ base ≤ b4 ∧ W.heap[b4]? = some (.cells #[.slice none 0 0, .slice none 0 0, .int .i64 0, .int .i64 0] 36 (0, 0))
  | _ => True
theorem F4.step {base b1 : Nat} {A2 : Option Addr} {c2 : Nat} {x : Nat → Value} {W W' : World} {j : Nat} (h : F4 base b1 A2 c2 x W j) (hb : Below W.heap.size W W') : F4 base b1 A2 c2 x W' j := by
  match j, h with
  | 0, h => exact Kd.R_below h hb
  | 1, h => exact Kd.R_below h hb
  | 2, h => exact Kd.R_below h hb
  | 3, h => exact h
  | 4, h => exact Kd.R_below h hb
  | 5, h => exact Kd.R_below h hb
  | 6, h => exact h
  | 7, h => exact h
  | 8, h =>
    obtain ⟨A, c, B, d, e, hr⟩ := h
    exact ⟨A, c, B, d, e, Kd.R_below hr hb⟩
  | 9, h =>
    obtain ⟨b3, e, h1, h2⟩ := h
    exact ⟨b3, e, h1, (hb.block _ (hq_lt h2)).trans h2⟩
  | 10, h =>
    obtain ⟨b3, e, h1, h2⟩ := h
    exact ⟨b3, e, h1, (hb.block _ (hq_lt h2)).trans h2⟩
  | (n + 11), _ => exact trivial
theorem F4.upd {base b1 : Nat} {A2 : Option Addr} {c2 : Nat} {x : Nat → Value} {W : World} {i j : Nat} {v : Value} (hij : j ≠ i) (h : F4 base b1 A2 c2 x W j) : F4 base b1 A2 c2 (updX x i v) W j := by
  have e : updX x i v j = x j := by simp [updX, hij]
  match j, h, e with
  | 0, h, e => unfold F4; rw [e]; exact h
  | 1, h, e => unfold F4; rw [e]; exact h
  | 2, h, e => unfold F4; rw [e]; exact h
  | 3, h, e => unfold F4; rw [e]; exact h
  | 4, h, e => unfold F4; rw [e]; exact h
  | 5, h, e => unfold F4; rw [e]; exact h
  | 6, h, e => unfold F4; rw [e]; exact h
  | 7, h, e => unfold F4; rw [e]; exact h
  | 8, h, e => unfold F4; rw [e]; exact h
  | 9, h, e => unfold F4; rw [e]; exact h
  | 10, h, e => unfold F4; rw [e]; exact h
  | (n + 11), _, _ => exact trivial
structure Ex1 (w : World) (b1 : Nat) (A1 : Option Addr) (c1 : Nat) (B1 : Option Addr) (d1 : Nat) (W : World) : Prop where
  below : Below w.heap.size w W
  bx1 : W.heap[b1]? = some (.cells #[.slice A1 1 c1, .slice B1 0 d1, .int .i64 0, .int .i64 0] 36 (0, 0))
  r1 : RR W w.heap.size (fun _ => True) (.slice A1 1 c1) [[0, 1, 2, 3]]
theorem Ex1.step {w : World} {b1 : Nat} {A1 : Option Addr} {c1 : Nat} {B1 : Option Addr} {d1 : Nat} {W W' : World} (h : Ex1 w b1 A1 c1 B1 d1 W) (hb : Below W.heap.size W W') : Ex1 w b1 A1 c1 B1 d1 W' :=
  ⟨h.below.trans (hb.mono h.below.size), (hb.block _ (hq_lt h.bx1)).trans h.bx1, Kd.R_below h.r1 hb⟩
theorem lit43 (W : World) (base : Nat) (hb : base ≤ W.heap.size) : Kd.R k43 43 (W.alloc (.cells #[.int .i64 4, .int .i64 400, .int .i64 1, .int .i64 100] 43)) base (fun _ => True) (.slice (some ⟨W.heap.size, 0, none⟩) 2 2) [⟨4, 400⟩, ⟨1, 100⟩] :=
  ⟨fun _ _ => trivial, [.int .i64 4, .int .i64 400, .int .i64 1, .int .i64 100], ⟨rfl, .inr ⟨W.heap.size, 2, #[.int .i64 4, .int .i64 400, .int .i64 1, .int .i64 100], rfl, hb, heap_alloc_new _ _, Nat.le_refl _, by decide, rfl, rfl⟩⟩,
    Reps.snoc (Reps.snoc (Reps.none _ 2) (k43_mkM _ _ _ ⟨4, 400⟩) rfl) (k43_mkM _ _ _ ⟨1, 100⟩) rfl⟩
structure Fin4 (w : World) (b3 b4 : Nat) (A3 : Option Addr) (c3 : Nat) (B3 : Option Addr) (d3 : Nat) (A4 : Option Addr) (c4 : Nat) (B4 : Option Addr) (d4 : Nat) (W : World) : Prop where
  below : Below w.heap.size w W
  bx3 : W.heap[b3]? = some (.cells #[.slice A3 0 c3, .slice B3 0 d3, .int .i64 21280, .int .i64 0] 36 (0, 0))
  bx4 : W.heap[b4]? = some (.cells #[.slice A4 0 c4, .slice B4 2 d4, .int .i64 0, .int .i64 0] 36 (0, 0))
  r4 : Kd.R k43 43 W w.heap.size (fun _ => True) (.slice B4 2 d4) [⟨4, 400⟩, ⟨1, 100⟩]
theorem Fin4.step {w : World} {b3 b4 : Nat} {A3 : Option Addr} {c3 : Nat} {B3 : Option Addr} {d3 : Nat} {A4 : Option Addr} {c4 : Nat} {B4 : Option Addr} {d4 : Nat} {W W' : World} (h : Fin4 w b3 b4 A3 c3 B3 d3 A4 c4 B4 d4 W) (hb : Below W.heap.size W W') : Fin4 w b3 b4 A3 c3 B3 d3 A4 c4 B4 d4 W' :=
  ⟨h.below.trans (hb.mono h.below.size), (hb.block _ (hq_lt h.bx3)).trans h.bx3, (hb.block _ (hq_lt h.bx4)).trans h.bx4, Kd.R_below h.r4 hb⟩
structure RI4 (w : World) (b1 : Nat) (A1 : Option Addr) (c1 : Nat) (B1 : Option Addr) (d1 : Nat) (a0 : Act) (b : Nat → Bool) (a : Act) (W : World) (x : Nat → Value) : Prop where
  act : a = putSel a0 b (L4 x)
  one : b 11 = false → Ex1 w b1 A1 c1 B1 d1 W ∧ (∀ j, b j = true → F4 w.heap.size b1 A1 c1 x W j) ∧ (b 9 = true → b 10 = true → x 9 ≠ x 10)
  two : b 11 = true → b 12 = false → ∃ b3 b4 A3 c3 B3 d3 A4 c4 B4 d4, x 9 = .pointer (some ⟨b3, 0, none⟩) ∧ x 10 = .pointer (some ⟨b4, 0, none⟩) ∧ x 8 = .agg #[.slice A4 0 c4, .slice B4 2 d4, .int .i64 0, .int .i64 0] ∧ b3 ≠ b4 ∧ w.heap.size ≤ b4 ∧ Below w.heap.size w W ∧
    W.heap[b3]? = some (.cells #[.slice A3 0 c3, .slice B3 0 d3, .int .i64 21280, .int .i64 0] 36 (0, 0)) ∧ W.heap[b4]? = some (.cells #[.slice none 0 0, .slice none 0 0, .int .i64 0, .int .i64 0] 36 (0, 0)) ∧ Kd.R k43 43 W w.heap.size (fun _ => True) (.slice B4 2 d4) [⟨4, 400⟩, ⟨1, 100⟩]
  three : b 12 = true → ∃ b3 b4 A3 c3 B3 d3 A4 c4 B4 d4, x 9 = .pointer (some ⟨b3, 0, none⟩) ∧ x 10 = .pointer (some ⟨b4, 0, none⟩) ∧ Fin4 w b3 b4 A3 c3 B3 d3 A4 c4 B4 d4 W
theorem RI4.value {w : World} {b1 : Nat} {A1 : Option Addr} {c1 : Nat} {B1 : Option Addr} {d1 : Nat} {a0 : Act} {b : Nat → Bool} {a : Act} {W : World} {x : Nat → Value} (h : RI4 w b1 A1 c1 B1 d1 a0 b a W x) {i : Nat} {t : Tmp} (v : Value) {W' : World} (hi : i ≤ 10) (hb : b i = false) (h11 : b 11 = false) (h12 : b 12 = false)
    (hL : (L4 x)[i]? = some (i, t, x i)) (hL' : (L4 x).set i (i, t, v) = L4 (updX x i v)) (hd : (((L4 x).take i ++ (L4 x).drop (i + 1)).all fun e => !(e.1 == i) && !(e.2.1 == t)) = true)
    (hB : Below W.heap.size W W') (hF : F4 w.heap.size b1 A1 c1 (updX x i v) W' i) (hne : updX x i v 9 ≠ updX x i v 10 ∨ (up b i 9 && up b i 10) = false) :
    RI4 w b1 A1 c1 B1 d1 a0 (up b i) (a.put (some t) v) W' (updX x i v) := by
  obtain ⟨h1, h2, h3⟩ := h.one h11
  have u11 : up b i 11 = false := by rw [up_ne (by omega)]; exact h11
  have u12 : up b i 12 = false := by rw [up_ne (by omega)]; exact h12
  refine ⟨?_, fun _ => ⟨h1.step hB, fun j hj => ?_, fun e9 e10 => ?_⟩, fun e => ?_, fun e => ?_⟩
  · rw [h.act]
    exact putSel_upk i hb hL hL' hd
  · by_cases hij : j = i
    · subst hij; exact hF
    · rw [up_ne hij] at hj
      exact ((h2 j hj).step hB).upd hij
  · rcases hne with hne | hne
    · exact hne
    · rw [e9, e10] at hne; cases hne
  · rw [u11] at e; cases e
  · rw [u12] at e; cases e
theorem ne_of {w : World} {b1 : Nat} {A1 : Option Addr} {c1 : Nat} {B1 : Option Addr} {d1 : Nat} {a0 : Act} {b : Nat → Bool} {a : Act} {W : World} {x : Nat → Value} (h : RI4 w b1 A1 c1 B1 d1 a0 b a W x) (h11 : b 11 = false) {i : Nat} {v : Value} (h9 : 9 ≠ i) (h10 : 10 ≠ i) : updX x i v 9 ≠ updX x i v 10 ∨ (up b i 9 && up b i 10) = false := by
  have e9 : updX x i v 9 = x 9 := by simp [updX, h9]
  have e10 : updX x i v 10 = x 10 := by simp [updX, h10]
  rw [e9, e10, up_ne h9, up_ne h10]
  cases h1 : b 9 with
  | false => exact .inr rfl
  | true =>
    cases h2 : b 10 with
    | false => exact .inr rfl
    | true => exact .inl ((h.one h11).2.2 h1 h2)
set_option maxRecDepth 100000 in
set_option maxHeartbeats 4000000 in
theorem examples9 (w : World) : Calls Try.prog 9 #[] w fun e w' => e = .returned (.bool true) ∧ Below w.heap.size w w' := by
  go_enter Try.func9, Try.ntmps9
  go_wp2_with (fail)
  obtain ⟨k1, hk1⟩ := ex_u5
  have hal := alloc_size w (.cells (nums .i64 [1, 1, 1, 1, 1]).toArray 3)
  have HB1 : Aside0 (Below w.heap.size w (w.alloc (.cells (nums .i64 [1, 1, 1, 1, 1]).toArray 3))) := ⟨below_alloc (Below.refl _ _) _⟩
  refine (chapmanlaw36_units.calls k1 (some ⟨w.heap.size, 0, none⟩) 5 [1, 1, 1, 1, 1] _ _ (Kd.R_reads' (litR w w.heap.size [1, 1, 1, 1, 1] (Nat.le_refl _) (by decide))).2.2 (by decide) hk1).mono ?_
  rintro e w1 ⟨v1, rfl, hU, hb⟩
  have HB2 := Aside0.mk (below_step HB1.out hb)
  obtain ⟨A1, c1, e1, hc1, hC1⟩ := Kd.R_reads hU
  subst e1
  obtain ⟨k2, hk2⟩ := ex_c5
  have HC := Aside0.mk (chapmanlaw36_chosen.calls k2 A1 c1 _ _ _ _ _ w1 hC1 hc1 hk2)
  clear hk1 hal HB1 hU hb hC1 hk2
  go_wp2_with (fail)
  refine HC.out.mono ?_
  rintro e w2 ⟨v1, v2, rfl, hG, hL, hb⟩
  have HB3 := Aside0.mk (below_step HB2.out hb)
  have HG := Aside0.mk (Kd.R_lower hG HB2.out.size)
  obtain ⟨A2, c2, e2, hc2, hC2⟩ := Kd.R_reads hG
  subst e2
  obtain ⟨A3, c3, e3, hc3, hC3⟩ := Kd.R_reads hL
  subst e3
  clear hG hL hb HC HB2 hC2 hC3
  go_wp2_with (fail)
  obtain ⟨k3, hk3⟩ := ex_u7
  have HB4 : Aside0 (Below w.heap.size w (w2.alloc (.cells (nums .i64 [4, 4, 4, 1, 1, 1, 1]).toArray 3))) := ⟨below_alloc HB3.out _⟩
  refine (chapmanlaw36_units.calls k3 (some ⟨w2.heap.size, 0, none⟩) 7 [4, 4, 4, 1, 1, 1, 1] _ _ (Kd.R_reads' (litR w2 w.heap.size [4, 4, 4, 1, 1, 1, 1] HB3.out.size (by decide))).2.2 (by decide) hk3).mono ?_
  rintro e w3 ⟨v3, rfl, hU, hb⟩
  have HB5 := Aside0.mk (below_step HB4.out hb)
  have HG2 := Aside0.mk (Kd.R_below (Kd.R_alloc HG.out _) hb)
  obtain ⟨A4, c4, e4, hc4, hC4⟩ := Kd.R_reads hU
  subst e4
  obtain ⟨k4, hk4⟩ := ex_c7
  have HC := Aside0.mk (chapmanlaw36_chosen.calls k4 A4 c4 _ _ _ _ _ w3 hC4 hc4 hk4)
  clear hk3 HB4 hU hb hC4 hk4 HG
  go_wp2_with (fail)
  refine HC.out.mono ?_
  rintro e w4 ⟨v3, v4, rfl, hG, hL, hb⟩
  have HB6 := Aside0.mk (below_step HB5.out hb)
  have HS := Aside0.mk (Kd.R_lower hG HB5.out.size)
  have HG3 := Aside0.mk (Kd.R_below HG2.out hb)
  obtain ⟨A5, c5, e5, hc5, hC5⟩ := Kd.R_reads hG
  subst e5
  obtain ⟨A6, c6, e6, hc6, hC6⟩ := Kd.R_reads hL
  subst e6
  clear hG hL hb HC HB5 hC5 hC6 HG2
  go_wp2_with (fail)
  have hx : ExI w w4.heap.size (w4.heap.size + 1) A2 c2 A3 c3 A5 c5 A6 c6 ((w4.alloc (.cells #[.slice A2 1 c2, .slice A3 0 c3, .int .i64 0, .int .i64 0] 36)).alloc (.cells #[.slice A5 1 c5, .slice A6 0 c6, .int .i64 0, .int .i64 0] 36)) := by
    obtain ⟨n1, n2, ns⟩ := two_new w4 (.cells #[.slice A2 1 c2, .slice A3 0 c3, .int .i64 0, .int .i64 0] 36 (0, 0)) (.cells #[.slice A5 1 c5, .slice A6 0 c6, .int .i64 0, .int .i64 0] 36 (0, 0))
    exact ⟨below_alloc (below_alloc HB6.out _) _, HB6.out.size, n1, n2, Kd.R_alloc (Kd.R_alloc HG3.out _) _, Kd.R_alloc (Kd.R_alloc HS.out _) _⟩
  have HX := Aside0.mk hx
  clear hx HB6 HG3 HS HB3
  obtain ⟨q1, hq1⟩ := ex_l 3 0 (by decide) lv_3
  refine (cost_Level.calls q1 3 0 _ hq1).mono ?_
  rintro e w5 ⟨rfl, hd⟩
  have HX5 := Aside0.mk (HX.out.step (drawn_below hd))
  clear hd hq1 HX
  go_wp2_with (fail)
  obtain ⟨q1, hq1⟩ := ex_l 4 1 (by decide) lv_4
  refine (cost_Level.calls q1 4 1 _ hq1).mono ?_
  rintro e w6 ⟨rfl, hd⟩
  have HX6 := Aside0.mk (HX5.out.step (drawn_below hd))
  clear hd hq1 HX5
  go_wp2_with (fail)
  obtain ⟨q1, hq1⟩ := ex_l 16 2 (by decide) lv_16
  refine (cost_Level.calls q1 16 2 _ hq1).mono ?_
  rintro e w7 ⟨rfl, hd⟩
  have HX7 := Aside0.mk (HX6.out.step (drawn_below hd))
  clear hd hq1 HX6
  go_wp2_with (fail)
  obtain ⟨q1, hq1⟩ := ex_l 0 (-1) (by decide) lv_zero
  refine (cost_Level.calls q1 0 (-1) _ hq1).mono ?_
  rintro e w8 ⟨rfl, hd⟩
  have HX8 := Aside0.mk (HX7.out.step (drawn_below hd))
  clear hd hq1 HX7
  have hc10 := hq_cell HX8.out.bx1 0 _ rfl
  have hc13 := hq_cell HX8.out.bx1 3 _ rfl
  simp only [List.getElem_toArray, List.getElem_cons_zero, List.getElem_cons_succ] at hc10 hc13
  go_wp2_with (fail)
  obtain ⟨q1, hq1⟩ := ex_s [[0, 1, 2, 3]] (by decide) (by decide)
  have hs8 := alloc_size w8 (.cells (nums .i64 [0, 1, 2, 3]).toArray 3)
  have hrr := litRR (w8.alloc (.cells (nums .i64 [0, 1, 2, 3]).toArray 3)) w.heap.size (by rw [hs8]; have := HX8.out.below.size; omega) (litR w8 w.heap.size [0, 1, 2, 3] HX8.out.below.size (by decide))
  rw [hs8] at hrr
  have hb8 := below_alloc (below_alloc (Below.refl w8.heap.size w8) (.cells (nums .i64 [0, 1, 2, 3]).toArray 3)) (.cells #[.slice (some ⟨w8.heap.size, 0, none⟩) 4 4] 26)
  have HY8 := Aside0.mk (HX8.out.step hb8)
  refine (chapmanref36_SameGroups.calls q1 A2 c2 [[0, 1, 2, 3]] (some ⟨w8.heap.size + 1, 0, none⟩) 1 [[0, 1, 2, 3]] true _ (Kd.R_reads' HY8.out.r1).2.2 hc2 (Kd.R_reads' hrr).2.2 (by decide) hq1).mono ?_
  rintro e w9 ⟨rfl, hd⟩
  have HX9 := Aside0.mk (HY8.out.step (drawn_below hd))
  clear hd hq1 HX8 hrr hb8 HY8 hc10 hc13 hs8
  have hc20 := hq_cell HX9.out.bx2 0 _ rfl
  simp only [List.getElem_toArray, List.getElem_cons_zero, List.getElem_cons_succ] at hc20
  go_wp2_with (fail)
  obtain ⟨q1, hq1⟩ := ex_s [[0, 1, 2, 3, 4, 5, 6]] (by decide) (by decide)
  have hs8 := alloc_size w9 (.cells (nums .i64 [0, 1, 2, 3, 4, 5, 6]).toArray 3)
  have hrr := litRR (w9.alloc (.cells (nums .i64 [0, 1, 2, 3, 4, 5, 6]).toArray 3)) w.heap.size (by rw [hs8]; have := HX9.out.below.size; omega) (litR w9 w.heap.size [0, 1, 2, 3, 4, 5, 6] HX9.out.below.size (by decide))
  rw [hs8] at hrr
  have hb8 := below_alloc (below_alloc (Below.refl w9.heap.size w9) (.cells (nums .i64 [0, 1, 2, 3, 4, 5, 6]).toArray 3)) (.cells #[.slice (some ⟨w9.heap.size, 0, none⟩) 7 7] 26)
  have HY8 := Aside0.mk (HX9.out.step hb8)
  refine (chapmanref36_SameGroups.calls q1 A5 c5 [[0, 1, 2, 3, 4, 5, 6]] (some ⟨w9.heap.size + 1, 0, none⟩) 1 [[0, 1, 2, 3, 4, 5, 6]] true _ (Kd.R_reads' HY8.out.r2).2.2 hc5 (Kd.R_reads' hrr).2.2 (by decide) hq1).mono ?_
  rintro e wa ⟨rfl, hd⟩
  have HXa := Aside0.mk (HY8.out.step (drawn_below hd))
  clear hd hq1 HX9 hrr hb8 HY8 hc20 hs8
  go_wp2
  have HE := Aside0.mk (show Ex1 w w4.heap.size A2 c2 A3 c3 wa.drew from ⟨HXa.out.below.drew, HXa.out.bx1, Kd.R_drew HXa.out.r1⟩)
  clear HXa hc1 hc4 hc5 hc6
  refine start_ (n := 13) (S := fun _ => True) (ds := []) #[false, false, false, false, false, false, false, false, false, false, false, false, false] (by kernel_rfl) rfl rfl trivial (fun _ => ?_); refine with_tabW ex4.tab4 ex4.bits4 (fun HT_ HW_ => ?_)
  refine inv_at [0, 1, 2, 3, 4, 5, 6, 7, 8, 9, 10, 11, 12] (fun a0 b a W => ∃ x, RI4 w w4.heap.size A2 c2 A3 c3 a0 b a W x) HT_.out HW_.out (by decide) (by rfl) ⟨fun _ => undef, ⟨rfl, fun _ => ⟨HE.out, by simp, by simp⟩, by simp, by simp⟩⟩ (steps_cons ?s0 (steps_cons ?s1 (steps_cons ?s2 (steps_cons ?s3 (steps_cons ?s4 (steps_cons ?s5 (steps_cons ?s6 (steps_cons ?s7 (steps_cons ?s8 (steps_cons ?s9 (steps_cons ?s10 (steps_cons ?s11 (steps_cons ?s12 steps_nil))))))))))))) ?hend
  case s0 =>
    intro b a W hI hb hon hoff
    obtain ⟨x, h⟩ := hI
    have h11 := hoff 11 (by decide)
    have h12 := hoff 12 (by decide)
    have h1 := (h.one h11).1
    have h2 := (h.one h11).2.1
    refine ⟨_, rfl, fun K hK => ?_⟩
    refine value_ (N := some 46) (v := .slice (some ⟨W.heap.size, 0, none⟩) 4 4) (w1 := W.alloc (.cells (nums .i64 [1, 1, 1, 1]).toArray 3)) (by rfl) rfl (by go_simp; rfl) ?_
    exact hK.out _ _ ⟨_, h.value _ (by decide) hb h11 h12 rfl rfl rfl (below_alloc (Below.refl _ _) _) (litR W w.heap.size [1, 1, 1, 1] h1.below.size (by decide)) (ne_of h h11 (by decide) (by decide))⟩
  case s1 =>
    intro b a W hI hb hon hoff
    obtain ⟨x, h⟩ := hI
    have h11 := hoff 11 (by decide)
    have h12 := hoff 12 (by decide)
    have h1 := (h.one h11).1
    have h2 := (h.one h11).2.1
    have ev46 : a.eval (.tmp 46) = x 0 := by rw [h.act]; exact eval_of (putSel_on (e := (0, 46, x 0)) 0 rfl rfl (hon 0 (by decide)) rfl)
    have r0 := h2 0 (hon 0 (by decide))
    obtain ⟨A, c, e, hc, hC⟩ := Kd.R_reads r0
    obtain ⟨k, hk⟩ := ex_u4
    refine ⟨_, rfl, fun K hK => ?_⟩
    refine goes_ Try.func29 (by kernel_rfl) rfl #[.slice A 4 c] (by rfl) rfl rfl (by simp only [List.map_toArray, List.map_cons, List.map_nil, ev46, e]; rfl) ?_
    refine (chapmanlaw36_units.calls k A c [1, 1, 1, 1] _ W hC hc hk).mono ?_
    rintro e W' ⟨v, rfl, hU, hb'⟩
    exact ⟨_, rfl, hK.out _ _ ⟨_, h.value _ (by decide) hb h11 h12 rfl rfl rfl hb' (Kd.R_lower hU h1.below.size) (ne_of h h11 (by decide) (by decide))⟩⟩
  case s2 =>
    intro b a W hI hb hon hoff
    obtain ⟨x, h⟩ := hI
    have h11 := hoff 11 (by decide)
    have h12 := hoff 12 (by decide)
    have h1 := (h.one h11).1
    have h2 := (h.one h11).2.1
    refine ⟨_, rfl, fun K hK => ?_⟩
    refine value_ (N := some 48) (v := .slice (some ⟨W.heap.size, 0, none⟩) 4 4) (w1 := W.alloc (.cells (nums .i64 [0, 1, 2, 3]).toArray 3)) (by rfl) rfl (by go_simp; rfl) ?_
    exact hK.out _ _ ⟨_, h.value _ (by decide) hb h11 h12 rfl rfl rfl (below_alloc (Below.refl _ _) _) (litR W w.heap.size [0, 1, 2, 3] h1.below.size (by decide)) (ne_of h h11 (by decide) (by decide))⟩
  case s3 =>
    intro b a W hI hb hon hoff
    obtain ⟨x, h⟩ := hI
    have h11 := hoff 11 (by decide)
    have h12 := hoff 12 (by decide)
    have h1 := (h.one h11).1
    have h2 := (h.one h11).2.1
    have ev47 : a.eval (.tmp 47) = x 1 := by rw [h.act]; exact eval_of (putSel_on (e := (1, 47, x 1)) 1 rfl rfl (hon 1 (by decide)) rfl)
    have ev48 : a.eval (.tmp 48) = x 2 := by rw [h.act]; exact eval_of (putSel_on (e := (2, 48, x 2)) 2 rfl rfl (hon 2 (by decide)) rfl)
    have r0 := h2 1 (hon 1 (by decide))
    obtain ⟨A, c, e, hc, hC⟩ := Kd.R_reads r0
    have r1 := h2 2 (hon 2 (by decide))
    obtain ⟨A', c', e', hc', hC'⟩ := Kd.R_reads r1
    obtain ⟨k, hk⟩ := ex_m4
    refine ⟨_, rfl, fun K hK => ?_⟩
    refine goes_ Try.func21 (by kernel_rfl) rfl #[.slice A 4 c, .slice A' 4 c'] (by rfl) rfl rfl (by simp only [List.map_toArray, List.map_cons, List.map_nil, ev47, ev48, e, e']; rfl) ?_
    refine (chapmanlaw36_merge.calls k A c [u1, u1, u1, u1] A' c' [0, 1, 2, 3] _ _ _ _ W hC hc hC' hc' hk).mono ?_
    rintro e W' ⟨v0, v1, rfl, hG, hL, hb'⟩
    obtain ⟨A5, c5, e5, _⟩ := Kd.R_reads hG
    subst e5
    obtain ⟨A6, c6, e6, _⟩ := Kd.R_reads hL
    subst e6
    exact ⟨_, rfl, hK.out _ _ ⟨_, h.value _ (by decide) hb h11 h12 rfl rfl rfl hb' ⟨_, _, _, _, rfl⟩ (ne_of h h11 (by decide) (by decide))⟩⟩
  case s4 =>
    intro b a W hI hb hon hoff
    obtain ⟨x, h⟩ := hI
    have h11 := hoff 11 (by decide)
    have h12 := hoff 12 (by decide)
    have h1 := (h.one h11).1
    have h2 := (h.one h11).2.1
    refine ⟨_, rfl, fun K hK => ?_⟩
    refine value_ (N := some 50) (v := .slice (some ⟨W.heap.size, 0, none⟩) 5 5) (w1 := W.alloc (.cells (nums .i64 [1, 1, 1, 1, 1]).toArray 3)) (by rfl) rfl (by go_simp; rfl) ?_
    exact hK.out _ _ ⟨_, h.value _ (by decide) hb h11 h12 rfl rfl rfl (below_alloc (Below.refl _ _) _) (litR W w.heap.size [1, 1, 1, 1, 1] h1.below.size (by decide)) (ne_of h h11 (by decide) (by decide))⟩
  case s5 =>
    intro b a W hI hb hon hoff
    obtain ⟨x, h⟩ := hI
    have h11 := hoff 11 (by decide)
    have h12 := hoff 12 (by decide)
    have h1 := (h.one h11).1
    have h2 := (h.one h11).2.1
    have ev50 : a.eval (.tmp 50) = x 4 := by rw [h.act]; exact eval_of (putSel_on (e := (4, 50, x 4)) 4 rfl rfl (hon 4 (by decide)) rfl)
    have r0 := h2 4 (hon 4 (by decide))
    obtain ⟨A, c, e, hc, hC⟩ := Kd.R_reads r0
    obtain ⟨k, hk⟩ := ex_u5
    refine ⟨_, rfl, fun K hK => ?_⟩
    refine goes_ Try.func29 (by kernel_rfl) rfl #[.slice A 5 c] (by rfl) rfl rfl (by simp only [List.map_toArray, List.map_cons, List.map_nil, ev50, e]; rfl) ?_
    refine (chapmanlaw36_units.calls k A c [1, 1, 1, 1, 1] _ W hC hc hk).mono ?_
    rintro e W' ⟨v, rfl, hU, hb'⟩
    exact ⟨_, rfl, hK.out _ _ ⟨_, h.value _ (by decide) hb h11 h12 rfl rfl rfl hb' (Kd.R_lower hU h1.below.size) (ne_of h h11 (by decide) (by decide))⟩⟩
  case s6 =>
    intro b a W hI hb hon hoff
    obtain ⟨x, h⟩ := hI
    have h11 := hoff 11 (by decide)
    have h12 := hoff 12 (by decide)
    have h1 := (h.one h11).1
    have h2 := (h.one h11).2.1
    have ev1 : a.tmps[1]? = some (.pointer (some ⟨w4.heap.size, 0, none⟩)) := by rw [h.act]; exact (putSel_off rfl).trans rfl
    refine ⟨_, rfl, fun K hK => ?_⟩
    refine value_ (N := some 52) (v := .pointer (some ⟨w4.heap.size, 0, none⟩)) (w1 := W) (by rfl) rfl (by go_simp) ?_
    exact hK.out _ _ ⟨_, h.value _ (by decide) hb h11 h12 rfl rfl rfl (Below.refl _ _) rfl (ne_of h h11 (by decide) (by decide))⟩
  case s7 =>
    intro b a W hI hb hon hoff
    obtain ⟨x, h⟩ := hI
    have h11 := hoff 11 (by decide)
    have h12 := hoff 12 (by decide)
    have h1 := (h.one h11).1
    have h2 := (h.one h11).2.1
    have ev52 : a.tmps[52]? = some (.pointer (some ⟨w4.heap.size, 0, none⟩)) := by
      have e6 : x 6 = .pointer (some ⟨w4.heap.size, 0, none⟩) := h2 6 (hon 6 (by decide))
      rw [h.act, ← e6]; exact putSel_on (e := (6, 52, x 6)) 6 rfl rfl (hon 6 (by decide)) rfl
    have hc0 := hq_cell h1.bx1 0 _ rfl
    simp only [List.getElem_toArray, List.getElem_cons_zero] at hc0
    refine ⟨_, rfl, fun K hK => ?_⟩
    refine value_ (N := some 53) (v := .slice A2 1 c2) (w1 := W) (by rfl) rfl (by go_simp) ?_
    exact hK.out _ _ ⟨_, h.value _ (by decide) hb h11 h12 rfl rfl rfl (Below.refl _ _) rfl (ne_of h h11 (by decide) (by decide))⟩
  case s8 =>
    intro b a W hI hb hon hoff
    obtain ⟨x, h⟩ := hI
    have h11 := hoff 11 (by decide)
    have h12 := hoff 12 (by decide)
    have h1 := (h.one h11).1
    have h2 := (h.one h11).2.1
    have ev51 : a.eval (.tmp 51) = x 5 := by rw [h.act]; exact eval_of (putSel_on (e := (5, 51, x 5)) 5 rfl rfl (hon 5 (by decide)) rfl)
    have ev53 : a.eval (.tmp 53) = x 7 := by rw [h.act]; exact eval_of (putSel_on (e := (7, 53, x 7)) 7 rfl rfl (hon 7 (by decide)) rfl)
    have r0 := h2 5 (hon 5 (by decide))
    obtain ⟨A, c, e, hc, hC⟩ := Kd.R_reads r0
    have e7 : x 7 = .slice A2 1 c2 := h2 7 (hon 7 (by decide))
    obtain ⟨k, hk⟩ := ex_a5
    refine ⟨_, rfl, fun K hK => ?_⟩
    refine goes_ Try.func19 (by kernel_rfl) rfl #[.slice A 5 c, .slice A2 1 c2] (by rfl) rfl rfl (by simp only [List.map_toArray, List.map_cons, List.map_nil, ev51, ev53, e, e7]; rfl) ?_
    refine (chapmanlaw36_after.calls k A c [u1, u1, u1, u1, u1] A2 c2 [[0, 1, 2, 3]] _ _ _ _ W hC hc (Kd.R_reads' h1.r1).2.2 hc2 hk).mono ?_
    rintro e W' ⟨v0, v1, rfl, hG, hL, hb'⟩
    obtain ⟨A5, c5, e5, _⟩ := Kd.R_reads hG
    subst e5
    obtain ⟨A6, c6, e6, _⟩ := Kd.R_reads hL
    subst e6
    exact ⟨_, rfl, hK.out _ _ ⟨_, h.value _ (by decide) hb h11 h12 rfl rfl rfl hb' ⟨_, _, _, _, rfl, Kd.R_lower hL h1.below.size⟩ (ne_of h h11 (by decide) (by decide))⟩⟩
  case s9 =>
    intro b a W hI hb hon hoff
    obtain ⟨x, h⟩ := hI
    have h11 := hoff 11 (by decide)
    have h12 := hoff 12 (by decide)
    have h1 := (h.one h11).1
    have h2 := (h.one h11).2.1
    refine ⟨_, rfl, fun K hK => ?_⟩
    refine value_ (N := some 3) (v := .pointer (some ⟨W.heap.size, 0, none⟩)) (w1 := W.alloc (.cells #[.slice none 0 0, .slice none 0 0, .int .i64 0, .int .i64 0] 36)) (by rfl) rfl (by go_simp) ?_
    refine hK.out _ _ ⟨_, h.value _ (by decide) hb h11 h12 rfl rfl rfl (below_alloc (Below.refl _ _) _) ⟨W.heap.size, rfl, h1.below.size, heap_alloc_new _ _⟩ ?_⟩
    by_cases ho : b 10 = true
    · obtain ⟨b3, e3, _, e4⟩ := h2 10 ho
      refine .inl (fun e => ?_)
      have e5 : x 10 = .pointer (some ⟨W.heap.size, 0, none⟩) := by simpa [updX] using e.symm
      rw [e3] at e5
      injection e5 with e5
      injection e5 with e5
      injection e5 with e5
      have := hq_lt e4
      omega
    · exact .inr (by simp [up, ho])
  case s10 =>
    intro b a W hI hb hon hoff
    obtain ⟨x, h⟩ := hI
    have h11 := hoff 11 (by decide)
    have h12 := hoff 12 (by decide)
    have h1 := (h.one h11).1
    have h2 := (h.one h11).2.1
    refine ⟨_, rfl, fun K hK => ?_⟩
    refine value_ (N := some 4) (v := .pointer (some ⟨W.heap.size, 0, none⟩)) (w1 := W.alloc (.cells #[.slice none 0 0, .slice none 0 0, .int .i64 0, .int .i64 0] 36)) (by rfl) rfl (by go_simp) ?_
    refine hK.out _ _ ⟨_, h.value _ (by decide) hb h11 h12 rfl rfl rfl (below_alloc (Below.refl _ _) _) ⟨W.heap.size, rfl, h1.below.size, heap_alloc_new _ _⟩ ?_⟩
    by_cases ho : b 9 = true
    · obtain ⟨b3, e3, _, e4⟩ := h2 9 ho
      refine .inl (fun e => ?_)
      have e5 : x 9 = .pointer (some ⟨W.heap.size, 0, none⟩) := by simpa [updX] using e
      rw [e3] at e5
      injection e5 with e5
      injection e5 with e5
      injection e5 with e5
      have := hq_lt e4
      omega
    · exact .inr (by simp [up, ho])
  case s11 =>
    intro b a W hI hb hon hoff
    obtain ⟨x, h⟩ := hI
    have h12 := hoff 12 (by decide)
    obtain ⟨h1, h2, h3⟩ := h.one hb
    obtain ⟨b3, e3, l3, x3⟩ := h2 9 (hon 9 (by decide))
    obtain ⟨b4, e4, l4, x4⟩ := h2 10 (hon 10 (by decide))
    obtain ⟨Ga, ga, La, la, em⟩ := h2 3 (hon 3 (by decide))
    obtain ⟨Gb, gb, Lb, lb, ea, rb⟩ := h2 8 (hon 8 (by decide))
    have hne : b3 ≠ b4 := fun e => h3 (hon 9 (by decide)) (hon 10 (by decide)) (by rw [e3, e4, e])
    have ev3 : a.tmps[3]? = some (.pointer (some ⟨b3, 0, none⟩)) := by
      rw [h.act, ← e3]; exact putSel_on (e := (9, 3, x 9)) 9 rfl rfl (hon 9 (by decide)) rfl
    have ev49 : a.tmps[49]? = some (.agg #[.slice Ga 0 ga, .slice La 0 la, .int .i64 21280, .int .i64 0]) := by
      rw [h.act, ← em]; exact putSel_on (e := (3, 49, x 3)) 3 rfl rfl (hon 3 (by decide)) rfl
    have hc0 := hq_cell x3 0 _ rfl
    have hc1 := hq_cell x3 1 _ rfl
    have hc2' := hq_cell x3 2 _ rfl
    have hc3' := hq_cell x3 3 _ rfl
    have hf0 := blk_free x3 0
    have hf1 := blk_free x3 1
    have hf2 := blk_free x3 2
    have hf3 := blk_free x3 3
    simp only [List.getElem_toArray, List.getElem_cons_zero, List.getElem_cons_succ] at hc0 hc1 hc2' hc3'
    refine ⟨_, rfl, fun K hK => ?_⟩
    refine skip_ (w1 := (((W.setCell ⟨b3, 0, none⟩ (.slice Ga 0 ga)).setCell ⟨b3, 1, none⟩ (.slice La 0 la)).setCell ⟨b3, 2, none⟩ (.int .i64 21280)).setCell ⟨b3, 3, none⟩ (.int .i64 0)) (by rfl) rfl (by go_simp) ?_
    have y3 := heap_set_same _ b3 3 (.int .i64 0) _ _ (heap_set_same _ b3 2 (.int .i64 21280) _ _ (heap_set_same _ b3 1 (.slice La 0 la) _ _ (heap_set_same W b3 0 (.slice Ga 0 ga) _ _ x3)))
    have y4 : ((((W.setCell ⟨b3, 0, none⟩ (.slice Ga 0 ga)).setCell ⟨b3, 1, none⟩ (.slice La 0 la)).setCell ⟨b3, 2, none⟩ (.int .i64 21280)).setCell ⟨b3, 3, none⟩ (.int .i64 0)).heap[b4]? = _ := (Below.heap_setCell _ ⟨b3, 3, none⟩ _ b4 hne.symm).trans ((Below.heap_setCell _ ⟨b3, 2, none⟩ _ b4 hne.symm).trans ((Below.heap_setCell _ ⟨b3, 1, none⟩ _ b4 hne.symm).trans ((Below.heap_setCell _ ⟨b3, 0, none⟩ _ b4 hne.symm).trans x4)))
    have h36 : ∀ q, q ∈ 43 :: k43.E → q ≠ 36 := by decide
    have r1' := Kd.R_set rb x3 h36 0 (.slice Ga 0 ga)
    have x31 := heap_set_same W b3 0 (.slice Ga 0 ga) _ _ x3
    have r2' := Kd.R_set r1' x31 h36 1 (.slice La 0 la)
    have x32 := heap_set_same _ b3 1 (.slice La 0 la) _ _ x31
    have r3' := Kd.R_set r2' x32 h36 2 (.int .i64 21280)
    have x33 := heap_set_same _ b3 2 (.int .i64 21280) _ _ x32
    have r4' := Kd.R_set r3' x33 h36 3 (.int .i64 0)
    refine hK.out _ _ ⟨x, ⟨by rw [h.act]; exact (putSel_same rfl).symm, fun e => ?_, fun _ _ => ⟨b3, b4, Ga, ga, La, la, Gb, gb, Lb, lb, e3, e4, ea, hne, l4, (((h1.below.setCell (p := ⟨b3, 0, none⟩) l3 _).setCell (p := ⟨b3, 1, none⟩) l3 _).setCell (p := ⟨b3, 2, none⟩) l3 _).setCell (p := ⟨b3, 3, none⟩) l3 _, y3, y4, r4'⟩, fun e => ?_⟩⟩
    · rw [up_self] at e; cases e
    · rw [up_ne (by decide), h12] at e; cases e
  case s12 =>
    intro b a W hI hb hon hoff
    obtain ⟨x, h⟩ := hI
    obtain ⟨b3, b4, Ga, ga, La, la, Gb, gb, Lb, lb, e3, e4, ea, hne, l4, hB, x3, x4, rb⟩ := h.two (hon 11 (by decide)) hb
    have ev4 : a.tmps[4]? = some (.pointer (some ⟨b4, 0, none⟩)) := by
      rw [h.act, ← e4]; exact putSel_on (e := (10, 4, x 10)) 10 rfl rfl (hon 10 (by decide)) rfl
    have ev54 : a.tmps[54]? = some (.agg #[.slice Gb 0 gb, .slice Lb 2 lb, .int .i64 0, .int .i64 0]) := by
      rw [h.act, ← ea]; exact putSel_on (e := (8, 54, x 8)) 8 rfl rfl (hon 8 (by decide)) rfl
    have hc0 := hq_cell x4 0 _ rfl
    have hc1 := hq_cell x4 1 _ rfl
    have hc2' := hq_cell x4 2 _ rfl
    have hc3' := hq_cell x4 3 _ rfl
    have hf0 := blk_free x4 0
    have hf1 := blk_free x4 1
    have hf2 := blk_free x4 2
    have hf3 := blk_free x4 3
    simp only [List.getElem_toArray, List.getElem_cons_zero, List.getElem_cons_succ] at hc0 hc1 hc2' hc3'
    refine ⟨_, rfl, fun K hK => ?_⟩
    refine skip_ (w1 := (((W.setCell ⟨b4, 0, none⟩ (.slice Gb 0 gb)).setCell ⟨b4, 1, none⟩ (.slice Lb 2 lb)).setCell ⟨b4, 2, none⟩ (.int .i64 0)).setCell ⟨b4, 3, none⟩ (.int .i64 0)) (by rfl) rfl (by go_simp) ?_
    have y4 := heap_set_same _ b4 3 (.int .i64 0) _ _ (heap_set_same _ b4 2 (.int .i64 0) _ _ (heap_set_same _ b4 1 (.slice Lb 2 lb) _ _ (heap_set_same W b4 0 (.slice Gb 0 gb) _ _ x4)))
    have y3 : ((((W.setCell ⟨b4, 0, none⟩ (.slice Gb 0 gb)).setCell ⟨b4, 1, none⟩ (.slice Lb 2 lb)).setCell ⟨b4, 2, none⟩ (.int .i64 0)).setCell ⟨b4, 3, none⟩ (.int .i64 0)).heap[b3]? = _ := (Below.heap_setCell _ ⟨b4, 3, none⟩ _ b3 hne).trans ((Below.heap_setCell _ ⟨b4, 2, none⟩ _ b3 hne).trans ((Below.heap_setCell _ ⟨b4, 1, none⟩ _ b3 hne).trans ((Below.heap_setCell _ ⟨b4, 0, none⟩ _ b3 hne).trans x3)))
    have h36 : ∀ q, q ∈ 43 :: k43.E → q ≠ 36 := by decide
    have r1' := Kd.R_set rb x4 h36 0 (.slice Gb 0 gb)
    have x31 := heap_set_same W b4 0 (.slice Gb 0 gb) _ _ x4
    have r2' := Kd.R_set r1' x31 h36 1 (.slice Lb 2 lb)
    have x32 := heap_set_same _ b4 1 (.slice Lb 2 lb) _ _ x31
    have r3' := Kd.R_set r2' x32 h36 2 (.int .i64 0)
    have x33 := heap_set_same _ b4 2 (.int .i64 0) _ _ x32
    have r4' := Kd.R_set r3' x33 h36 3 (.int .i64 0)
    refine hK.out _ _ ⟨x, ⟨by rw [h.act]; exact (putSel_same rfl).symm, fun e => ?_, fun _ e => ?_, fun _ => ⟨b3, b4, Ga, ga, La, la, Gb, gb, Lb, lb, e3, e4, ⟨(((hB.setCell (p := ⟨b4, 0, none⟩) l4 _).setCell (p := ⟨b4, 1, none⟩) l4 _).setCell (p := ⟨b4, 2, none⟩) l4 _).setCell (p := ⟨b4, 3, none⟩) l4 _, y3, y4, r4'⟩⟩⟩⟩
    · rw [up_ne (by decide), hon 11 (by decide)] at e; cases e
    · rw [up_self] at e; cases e
  case hend =>
    rintro b a W hall ⟨x, h⟩
    obtain ⟨b3, b4, Ga, ga, La, la, Gb, gb, Lb, lb, e3, e4, hF⟩ := h.three (hall 12 (by decide))
    have HF := Aside0.mk hF
    have ha := h.act
    simp only [L4, putSel, hall 0 (by decide), hall 1 (by decide), hall 2 (by decide), hall 3 (by decide), hall 4 (by decide), hall 5 (by decide), hall 6 (by decide), hall 7 (by decide), hall 8 (by decide), hall 9 (by decide), hall 10 (by decide), if_true, e3, e4, Act.put, List.setIfInBounds_toArray, List.set_cons_zero, List.set_cons_succ] at ha
    subst ha
    clear h hF HE hall e3 e4
    generalize x 0 = z0
    generalize x 1 = z1
    generalize x 2 = z2
    generalize x 3 = z3
    generalize x 4 = z4
    generalize x 5 = z5
    generalize x 6 = z6
    generalize x 7 = z7
    generalize x 8 = z8
    have hc32 := hq_cell HF.out.bx3 2 _ rfl
    have hc33 := hq_cell HF.out.bx3 3 _ rfl
    simp only [List.getElem_toArray, List.getElem_cons_zero, List.getElem_cons_succ] at hc32 hc33
    go_wp2_with (fail)
    clear hc32 hc33
    obtain ⟨k, hk⟩ := ex_u4
    have hy := HF.out.step (below_alloc (Below.refl W.heap.size W) (.cells (nums .i64 [1, 1, 1, 1]).toArray 3))
    refine (chapmanlaw36_units.calls k (some ⟨W.heap.size, 0, none⟩) 4 [1, 1, 1, 1] _ _ (Kd.R_reads' (litR W w.heap.size [1, 1, 1, 1] HF.out.below.size (by decide))).2.2 (by decide) hk).mono ?_
    rintro e wb ⟨v, rfl, hU, hb⟩
    have HF1 := Aside0.mk (hy.step hb)
    obtain ⟨A, c, e, hc, hC⟩ := Kd.R_reads hU
    subst e
    obtain ⟨k', hk'⟩ := ex_w2
    have HC := Aside0.mk (chapmanlaw36_worth.calls k' A c _ 2 _ _ _ _ wb hC hc hk')
    clear hk hy hU hb hC hk' HF
    go_wp2_with (fail)
    refine HC.out.mono ?_
    rintro e wc ⟨v0, v1, rfl, hG, hL, hb⟩
    have HF2 := Aside0.mk (HF1.out.step hb)
    obtain ⟨AG, cG, e, hcG, hCG⟩ := Kd.R_reads hG
    subst e
    obtain ⟨AL, cL, e, hcL, hCL⟩ := Kd.R_reads hL
    subst e
    clear hG hL hb hCG hCL HF1 HC
    go_wp2_with (fail)
    obtain ⟨k, hk⟩ := ex_u4
    have hy := HF2.out.step (below_alloc (Below.refl wc.heap.size wc) (.cells (nums .i64 [1, 1, 1, 1]).toArray 3))
    refine (chapmanlaw36_units.calls k (some ⟨wc.heap.size, 0, none⟩) 4 [1, 1, 1, 1] _ _ (Kd.R_reads' (litR wc w.heap.size [1, 1, 1, 1] HF2.out.below.size (by decide))).2.2 (by decide) hk).mono ?_
    rintro e wd ⟨v, rfl, hU, hb⟩
    have HF3 := Aside0.mk (hy.step hb)
    obtain ⟨A, c, e, hc, hC⟩ := Kd.R_reads hU
    subst e
    obtain ⟨k', hk'⟩ := ex_w1
    have HC := Aside0.mk (chapmanlaw36_worth.calls k' A c _ 1 _ _ _ _ wd hC hc hk')
    clear hk hy hU hb hC hk' HF2
    go_wp2_with (fail)
    refine HC.out.mono ?_
    rintro e we ⟨v0, v1, rfl, hG, hL, hb⟩
    have HF4 := Aside0.mk (HF3.out.step hb)
    obtain ⟨AG, cG, e, hcG, hCG⟩ := Kd.R_reads hG
    subst e
    obtain ⟨AL, cL, e, hcL, hCL⟩ := Kd.R_reads hL
    subst e
    clear hG hL hb hCG hCL HF3 HC
    have hc41 := hq_cell HF4.out.bx4 1 _ rfl
    simp only [List.getElem_toArray, List.getElem_cons_zero, List.getElem_cons_succ] at hc41
    go_wp2_with (fail)
    clear hc41
    obtain ⟨k, hk⟩ := ex_p [⟨4, 400⟩, ⟨1, 100⟩] (by decide)
    have hy := HF4.out.step (below_alloc (Below.refl we.heap.size we) (.cells #[.int .i64 4, .int .i64 400, .int .i64 1, .int .i64 100] 43))
    refine (chapmanref36_SamePieces.calls k Lb lb [⟨4, 400⟩, ⟨1, 100⟩] (some ⟨we.heap.size, 0, none⟩) 2 [⟨4, 400⟩, ⟨1, 100⟩] true _ (Kd.R_reads' hy.r4).2.2 (Kd.R_reads' hy.r4).2.1 (Kd.R_reads' (lit43 we w.heap.size HF4.out.below.size)).2.2 (by decide) hk).mono ?_
    rintro e wf ⟨rfl, hd⟩
    have HF5 := Aside0.mk (hy.step (drawn_below hd))
    clear hk hy hd HF4
    go_wp2_with (fail)
    obtain ⟨k, hk⟩ := ex_u2
    have hy := HF5.out.step (below_alloc (Below.refl wf.heap.size wf) (.cells (nums .i64 [1, 1]).toArray 3))
    refine (chapmanlaw36_units.calls k (some ⟨wf.heap.size, 0, none⟩) 2 [1, 1] _ _ (Kd.R_reads' (litR wf w.heap.size [1, 1] HF5.out.below.size (by decide))).2.2 (by decide) hk).mono ?_
    rintro e wg ⟨v, rfl, hU, hb⟩
    have HF6 := Aside0.mk (hy.step hb)
    obtain ⟨A, c, e, hc, hC⟩ := Kd.R_reads hU
    subst e
    obtain ⟨k', hk'⟩ := ex_r2
    have HC := Aside0.mk (chapmanlaw36_read.calls k' A c _ _ _ _ _ wg hC hc hk')
    clear hk hy hU hb hC hk' HF5
    go_wp2_with (fail)
    refine HC.out.mono ?_
    rintro e wh ⟨v0, v1, rfl, hG, hL, hb⟩
    have HF7 := Aside0.mk (HF6.out.step hb)
    obtain ⟨AG, cG, e, hcG, hCG⟩ := Kd.R_reads hG
    subst e
    obtain ⟨AL, cL, e, hcL, hCL⟩ := Kd.R_reads hL
    subst e
    clear hG hL hb hCG hCL HF6 HC
    go_wp2_with (fail)
    obtain ⟨k, hk⟩ := ex_u0
    have hy := HF7.out.step (below_alloc (Below.refl wh.heap.size wh) (.cells (nums .i64 [0]).toArray 3))
    refine (chapmanlaw36_units.calls k (some ⟨wh.heap.size, 0, none⟩) 1 [0] _ _ (Kd.R_reads' (litR wh w.heap.size [0] HF7.out.below.size (by decide))).2.2 (by decide) hk).mono ?_
    rintro e wi ⟨v, rfl, hU, hb⟩
    have HF8 := Aside0.mk (hy.step hb)
    obtain ⟨A, c, e, hc, hC⟩ := Kd.R_reads hU
    subst e
    obtain ⟨k', hk'⟩ := ex_r0
    have HC := Aside0.mk (chapmanlaw36_read.calls k' A c _ _ _ _ _ wi hC hc hk')
    clear hk hy hU hb hC hk' HF7
    go_wp2_with (fail)
    refine HC.out.mono ?_
    rintro e wj ⟨v0, v1, rfl, hG, hL, hb⟩
    have HF9 := Aside0.mk (HF8.out.step hb)
    obtain ⟨AG, cG, e, hcG, hCG⟩ := Kd.R_reads hG
    subst e
    obtain ⟨AL, cL, e, hcL, hCL⟩ := Kd.R_reads hL
    subst e
    clear hG hL hb hCG hCL HF8 HC
    go_wp2_with (fail)
    obtain ⟨k, hk⟩ := ex_u1
    have hy := HF9.out.step (below_alloc (Below.refl wj.heap.size wj) (.cells (nums .i64 [1]).toArray 3))
    refine (chapmanlaw36_units.calls k (some ⟨wj.heap.size, 0, none⟩) 1 [1] _ _ (Kd.R_reads' (litR wj w.heap.size [1] HF9.out.below.size (by decide))).2.2 (by decide) hk).mono ?_
    rintro e wk ⟨v, rfl, hU, hb⟩
    have HFa := Aside0.mk (hy.step hb)
    obtain ⟨A, c, e, hc, hC⟩ := Kd.R_reads hU
    subst e
    obtain ⟨k', hk'⟩ := ex_p1
    have HC := Aside0.mk (chapmanlaw36_pieces.calls k' A c _ _ wk hC hc hk')
    clear hk hy hU hb hC hk' HF9
    go_wp2_with (fail)
    refine HC.out.mono ?_
    rintro e wl ⟨v, rfl, hU, hb⟩
    have HFb := Aside0.mk (HFa.out.step hb)
    obtain ⟨A, c, e, hc, hC⟩ := Kd.R_reads hU
    subst e
    have HV := Aside0.mk (valid11 A c [⟨1, 100⟩] wl hC hc)
    clear hU hb HC HFa hC
    go_wp2_with (fail)
    refine HV.out.mono ?_
    rintro e wm ⟨rfl, hb⟩
    have HFc := Aside0.mk (HFb.out.step hb)
    clear hb HFb HV
    rw [show validL [⟨1, 100⟩] = true from rfl]
    go_wp2
    go_ret
    exact ⟨rfl, HFc.out.below⟩
end Go.Proofs.Ytckempgpaojljaa.P
end
