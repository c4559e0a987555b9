/- Parts of a proof, laid together: Hf, Ga, Gb, Gc, Gd, Ge, Hg, Gg, Gi. -/
import Derived.Test.YtckempgpaojljaaMc2
import Derived.Test.YtckempgpaojljaaMc4
import Derived.Test.YtckempgpaojljaaMc5
import Derived.Test.YtckempgpaojljaaMc6
import Derived.Test.YtckempgpaojljaaMc3
section
/- The contract of chapmanref36.Made. -/
namespace Go.Proofs.Ytckempgpaojljaa.P
set_option linter.unusedVariables false
set_option linter.unusedSimpArgs false
open Go.RowKit Go.Proofs.YtckempgpaojljaaW.PrintWords Go.Proofs.YtckempgpaojljaaW.PrintLast Go.Proofs.YtckempgpaojljaaW.PrintMore
attribute [local go_sem] Oper.semAt_some
def made10.T10 : Bool × List (List Nat × List Nat) := (true, [([], []), ([], []), ([], []), ([], []), ([2, 3], [2, 3]), ([4], [4]), ([5], [5]), ([6], [6]), ([7], [7]), ([1, 8], [1, 8]), ([], []), ([], []), ([10, 11], [10, 11]), ([12], [12]), ([13], [13]), ([14], [14]), ([15], [15]), ([9, 16], [9, 16]), ([17], [17]), ([0, 18], [0, 18]), ([19, 19, 0, 1, 2, 3, 4, 5, 6, 7, 8, 9, 10, 11, 12, 13, 14, 15, 16, 17, 18, 19], [0, 19])])
def made10.B10 : List Nat := [0, 0, 0, 0, 12, 28, 60, 124, 252, 510, 0, 0, 3072, 7168, 15360, 31744, 64512, 131070, 262142, 524287, 1048575]
theorem made10.tab10 : rtab .any (opsOf Try.f10 10) = made10.T10 := by kernel_rfl
theorem made10.bits10 : waitsOk made10.T10.2 made10.B10 = true := by kernel_rfl
/-- One piece that is made. -/
def madeP (p : S50) : S43 := ⟨((4 ^ (p.f0 % 4).toNat : Nat) : Int) + p.f0 / 16, p.f1 * 40⟩
/-- What Made makes. -/
def madeL (l : List S50) : List S43 := (l.take 60).map madeP
def bytes2 (l : List S50) : Prop := ∀ p ∈ l, 0 ≤ p.f0 ∧ p.f0 ≤ 255 ∧ 0 ≤ p.f1 ∧ p.f1 ≤ 255
theorem at_get50 {l : List S50} {k : Nat} (hlt : k < l.length) : l[k]? = some (rd_T50 l k) := by
  simp [rd_T50, List.getD_eq_getElem?_getD, hlt]

theorem R_zero {α : Type} (d : Kd α) (e : Nat) (w : World) (base : Nat) (ok : Nat → Prop) (hb : base ≤ w.heap.size) (ho : ok w.heap.size) : d.R e (w.alloc (.cells #[] e)) base ok (.slice (some ⟨w.heap.size, 0, none⟩) 0 0) [] :=
  ⟨fun k hk => by
    have : w.heap.size = k := by simpa [Value.ownBlock] using hk
    rw [← this]; exact ho, [], ⟨by simp, .inr ⟨w.heap.size, 0, #[], rfl, hb, heap_alloc_new _ _, Nat.le_refl _, Nat.zero_le _, by simp, by simp⟩⟩, Reps.none _ _⟩

theorem madeL_succ {l : List S50} {k : Nat} {p : S50} (h : l[k]? = some p) (hk : k < 60) : (l.take (k + 1)).map madeP = (l.take k).map madeP ++ [madeP p] := by
  rw [List.take_add_one, h]
  simp

set_option maxHeartbeats 1000000 in
set_option maxRecDepth 100000 in
theorem made10 (A : Option Addr) (c : Nat) (l : List S50) (w : World) (hr : Kd.C k50 w A l.length l) (hc : l.length ≤ c) (hb : bytes2 l) :
    Calls Try.prog 10 #[.slice A l.length c] w fun e w' => ∃ v, e = .returned v ∧ Kd.R k43 43 w' w.heap.size (fun _ => True) v (madeL l) ∧ Below w.heap.size w w' := by
  have hl : l.length ≤ 9223372036854775807 := hr.2.1
  have HR := Aside0.mk hr
  have HB0 := Aside0.mk hb
  clear hr hb
  go_enter Try.func10, Try.ntmps10
  go_wp2
  go_loopw [4, 3] (fun v4 v3 w' => ∃ k : Nat, k ≤ l.length ∧ k ≤ 60 ∧ v4 = .int .i64 k ∧ Aside0 (Below w.heap.size w w') ∧ Aside0 (Kd.R k43 43 w' w.heap.size (fun _ => True) v3 ((l.take k).map madeP))) (fun v4 _ _ => 60 - (intOf v4).toNat)
  case atStart => exact ⟨0, by omega, by omega, rfl, ⟨below_alloc (Below.refl _ _) _⟩, ⟨R_zero _ _ _ _ _ (Nat.le_refl _) trivial⟩⟩
  case round =>
    obtain ⟨k, hk, hk6, rfl, HB, HV⟩ := hrel
    by_cases hlt : k < l.length
    · by_cases h60 : k < 60
      · obtain ⟨ad, rfl, h0, h1⟩ := at_T50 HR.out (k : Int) (by omega) (by omega)
        simp only [Int.toNat_natCast] at h0 h1
        have HC0 := Aside0.mk h0
        have HC1 := Aside0.mk h1
        replace h0 := (HB.out.cell (World.block_lt_of_cell? w _ h0)).trans h0
        replace h1 := (HB.out.cell (World.block_lt_of_cell? w _ h1)).trans h1
        have HX := Aside0.mk (at_get50 hlt)
        have hbd := HB0.out _ (List.mem_of_getElem? HX.out)
        generalize rd_T50 l k = p at h0 h1 HX hbd HC0 HC1
        obtain ⟨p0, p1, p2, p3⟩ := hbd
        obtain ⟨f0, hf0⟩ : ∃ f0, f0 = p.f0 := ⟨_, rfl⟩
        obtain ⟨f1, hf1⟩ : ∃ f1, f1 = p.f1 := ⟨_, rfl⟩
        rw [← hf0] at h0 p0 p1 HC0
        rw [← hf1] at h1 p2 p3 HC1
        have HF0 := Aside0.mk hf0
        have HF1 := Aside0.mk hf1
        clear hf0 hf1
        go_wp2
        have hm4 : 0 ≤ f0 % 4 ∧ f0 % 4 ≤ 3 := by omega
        obtain ⟨m, hm⟩ : ∃ m : Nat, f0 % 4 = (m : Int) := ⟨(f0 % 4).toNat, by omega⟩
        have hm3 : m ≤ 3 := by omega
        have HM := Aside0.mk hm
        have HB9 := HB
        have HV9 := HV
        obtain ⟨wo, hwo⟩ : ∃ wo, wo = wr := ⟨_, rfl⟩
        go_loopw [6, 5] (fun v6 v5 w' => ∃ (q : Nat) (n : Int), q ≤ m ∧ v6 = .int .i64 q ∧ v5 = .int .i64 n ∧ 1 ≤ n ∧ n ≤ 64 ∧ Aside0 (n = ((4 ^ q : Nat) : Int)) ∧ w' = wo) (fun v6 _ _ => 4 - (intOf v6).toNat)
        case atStart => exact ⟨0, 1, by omega, rfl, rfl, by omega, by omega, ⟨rfl⟩, hwo.symm⟩
        case round =>
          subst hwo
          obtain ⟨q, n, hq, rfl, rfl, n1, n2, HN, hwr⟩ := hrel
          subst hwr
          by_cases hq2 : q < m
          · go_wp2
            refine ⟨⟨q + 1, n * 4, by omega, by go_num, rfl, by omega, ?_, ⟨by rw [HN.out, Nat.pow_succ]; push_cast; rfl⟩, trivial⟩, by simp [intOf]; omega⟩
            have h1 := HN.out
            have h2 : 4 ^ q ≤ 4 ^ 2 := Nat.pow_le_pow_right (by decide) (by omega)
            omega
          · obtain rfl : q = m := by omega
            go_wp2
            refine start_ (n := 21) (S := fun w' => w'.cell? (ad.add (k * 2)) = some (.int .u8 f0) ∧ w'.cell? ⟨(ad.add (k * 2)).block, (ad.add (k * 2)).off + 1, none⟩ = some (.int .u8 f1)) (ds := []) #[false, false, false, false, false, false, false, false, false, false, false, false, false, false, false, false, false, false, false, false, false] (by kernel_rfl) rfl rfl ⟨h0, h1⟩ (fun hHeld => ?_); refine with_tabW made10.tab10 made10.bits10 (fun HT_ HW_ => ?_)
            refine pure_ (i := 0) (N := some 31) (v := ?_) (a' := ?_) #[true, false, false, false, false, false, false, false, false, false, false, false, false, false, false, false, false, false, false, false, false] rfl rfl (any_of HT_.out (by kernel_rfl)) (fun _ _ _ h => h) (Or.inl ⟨by rfl, ?_⟩) ?_ ?_
            rotate_left
            · intro w'; go_simp; with_reducible rfl
            rotate_left
            · simp only [Act.put, List.setIfInBounds_toArray, List.set_cons_zero, List.set_cons_succ, i64_w, i32_w]; rfl
            refine pure_ (i := 1) (N := some 32) (v := ?_) (a' := ?_) #[true, true, false, false, false, false, false, false, false, false, false, false, false, false, false, false, false, false, false, false, false] rfl rfl (any_of HT_.out (by kernel_rfl)) (fun _ _ _ h => h) (Or.inl ⟨by rfl, ?_⟩) ?_ ?_
            rotate_left
            · intro w'; go_simp; with_reducible rfl
            rotate_left
            · simp only [Act.put, List.setIfInBounds_toArray, List.set_cons_zero, List.set_cons_succ, i64_w, i32_w]; rfl
            refine pure_ (i := 2) (N := some 33) (v := ?_) (a' := ?_) #[true, true, true, false, false, false, false, false, false, false, false, false, false, false, false, false, false, false, false, false, false] rfl rfl (any_of HT_.out (by kernel_rfl)) (fun _ _ _ h => h) (Or.inl ⟨by rfl, ?_⟩) ?_ ?_
            rotate_left
            · intro w'; go_simp; with_reducible rfl
            rotate_left
            · simp only [Act.put, List.setIfInBounds_toArray, List.set_cons_zero, List.set_cons_succ, i64_w, i32_w]; rfl
            refine pure_ (i := 3) (N := some 34) (v := ?_) (a' := ?_) #[true, true, true, true, false, false, false, false, false, false, false, false, false, false, false, false, false, false, false, false, false] rfl rfl (any_of HT_.out (by kernel_rfl)) (fun _ _ _ h => h) (Or.inl ⟨by rfl, ?_⟩) ?_ ?_
            rotate_left
            · intro w'; go_simp; with_reducible rfl
            rotate_left
            · simp only [Act.put, List.setIfInBounds_toArray, List.set_cons_zero, List.set_cons_succ, i64_w, i32_w]; rfl
            refine pure_ (i := 4) (N := some 35) (v := ?_) (a' := ?_) #[true, true, true, true, true, false, false, false, false, false, false, false, false, false, false, false, false, false, false, false, false] rfl rfl (any_of HT_.out (by kernel_rfl)) (fun _ _ _ h => h) (Or.inl ⟨by rfl, ?_⟩) ?_ ?_
            rotate_left
            · intro w'; go_simp; with_reducible rfl
            rotate_left
            · simp only [Act.put, List.setIfInBounds_toArray, List.set_cons_zero, List.set_cons_succ, i64_w, i32_w]; rfl
            refine pure_ (i := 5) (N := some 36) (v := ?_) (a' := ?_) #[true, true, true, true, true, true, false, false, false, false, false, false, false, false, false, false, false, false, false, false, false] rfl rfl (any_of HT_.out (by kernel_rfl)) (fun _ _ _ h => h) (Or.inl ⟨by rfl, ?_⟩) ?_ ?_
            rotate_left
            · intro w'; go_simp; with_reducible rfl
            rotate_left
            · simp only [Act.put, List.setIfInBounds_toArray, List.set_cons_zero, List.set_cons_succ, i64_w, i32_w]; rfl
            refine pure_ (i := 10) (N := some 41) (v := ?_) (a' := ?_) #[true, true, true, true, true, true, false, false, false, false, true, false, false, false, false, false, false, false, false, false, false] rfl rfl (any_of HT_.out (by kernel_rfl)) (fun _ _ _ h => h) (Or.inl ⟨by rfl, ?_⟩) ?_ ?_
            rotate_left
            · intro w'; go_simp; with_reducible rfl
            rotate_left
            · simp only [Act.put, List.setIfInBounds_toArray, List.set_cons_zero, List.set_cons_succ, i64_w, i32_w]; rfl
            refine pure_ (i := 11) (N := some 42) (v := ?_) (a' := ?_) #[true, true, true, true, true, true, false, false, false, false, true, true, false, false, false, false, false, false, false, false, false] rfl rfl (any_of HT_.out (by kernel_rfl)) (fun _ _ _ h => h) (Or.inl ⟨by rfl, ?_⟩) ?_ ?_
            rotate_left
            · intro w'; go_simp; with_reducible rfl
            rotate_left
            · simp only [Act.put, List.setIfInBounds_toArray, List.set_cons_zero, List.set_cons_succ, i64_w, i32_w]; rfl
            refine pure_ (i := 12) (N := some 43) (v := ?_) (a' := ?_) #[true, true, true, true, true, true, false, false, false, false, true, true, true, false, false, false, false, false, false, false, false] rfl rfl (any_of HT_.out (by kernel_rfl)) (fun _ _ _ h => h) (Or.inl ⟨by rfl, ?_⟩) ?_ ?_
            rotate_left
            · intro w'; go_simp; with_reducible rfl
            rotate_left
            · simp only [Act.put, List.setIfInBounds_toArray, List.set_cons_zero, List.set_cons_succ, i64_w, i32_w]; rfl
            refine pure_ (i := 13) (N := some 44) (v := ?_) (a' := ?_) #[true, true, true, true, true, true, false, false, false, false, true, true, true, true, false, false, false, false, false, false, false] rfl rfl (any_of HT_.out (by kernel_rfl)) (fun _ _ _ h => h) (Or.inl ⟨by rfl, ?_⟩) ?_ ?_
            rotate_left
            · intro w'; go_simp; with_reducible rfl
            rotate_left
            · simp only [Act.put, List.setIfInBounds_toArray, List.set_cons_zero, List.set_cons_succ, i64_w, i32_w]; rfl
            refine take_ (i := 6) (N := some 37) (v := ?_) (a' := ?_) #[true, true, true, true, true, true, true, false, false, false, true, true, true, true, false, false, false, false, false, false, false] rfl rfl (take_ofW HT_.out HW_.out (by kernel_rfl)) (fun _ _ _ h => h) (Or.inl ⟨by rfl, ?_⟩) hHeld ?_ ?_
            rotate_left
            · rintro w' ⟨s0, s1⟩; go_simp; with_reducible rfl
            rotate_left
            · simp only [Act.put, List.setIfInBounds_toArray, List.set_cons_zero, List.set_cons_succ, i64_w, i32_w]; rfl
            refine pure_ (i := 7) (N := some 38) (v := ?_) (a' := ?_) #[true, true, true, true, true, true, true, true, false, false, true, true, true, true, false, false, false, false, false, false, false] rfl rfl (any_of HT_.out (by kernel_rfl)) (fun _ _ _ h => h) (Or.inl ⟨by rfl, ?_⟩) ?_ ?_
            rotate_left
            · intro w'; go_simp; with_reducible rfl
            rotate_left
            · simp only [Act.put, List.setIfInBounds_toArray, List.set_cons_zero, List.set_cons_succ, i64_w, i32_w]; rfl
            refine pure_ (i := 8) (N := some 39) (v := ?_) (a' := ?_) #[true, true, true, true, true, true, true, true, true, false, true, true, true, true, false, false, false, false, false, false, false] rfl rfl (any_of HT_.out (by kernel_rfl)) (fun _ _ _ h => h) (Or.inl ⟨by rfl, ?_⟩) ?_ ?_
            rotate_left
            · intro w'; go_simp; with_reducible rfl
            rotate_left
            · simp only [Act.put, List.setIfInBounds_toArray, List.set_cons_zero, List.set_cons_succ, i64_w, i32_w]; rfl
            refine pure_ (i := 9) (N := some 40) (v := ?_) (a' := ?_) #[true, true, true, true, true, true, true, true, true, true, true, true, true, true, false, false, false, false, false, false, false] rfl rfl (any_of HT_.out (by kernel_rfl)) (fun _ _ _ h => h) (Or.inl ⟨by rfl, ?_⟩) ?_ ?_
            rotate_left
            · intro w'; go_simp; with_reducible rfl
            rotate_left
            · simp only [Act.put, List.setIfInBounds_toArray, List.set_cons_zero, List.set_cons_succ, i64_w, i32_w]; rfl
            refine take_ (i := 14) (N := some 45) (v := ?_) (a' := ?_) #[true, true, true, true, true, true, true, true, true, true, true, true, true, true, true, false, false, false, false, false, false] rfl rfl (take_ofW HT_.out HW_.out (by kernel_rfl)) (fun _ _ _ h => h) (Or.inl ⟨by rfl, ?_⟩) hHeld ?_ ?_
            rotate_left
            · rintro w' ⟨s0, s1⟩; go_simp; with_reducible rfl
            rotate_left
            · simp only [Act.put, List.setIfInBounds_toArray, List.set_cons_zero, List.set_cons_succ, i64_w, i32_w]; rfl
            refine pure_ (i := 15) (N := some 46) (v := ?_) (a' := ?_) #[true, true, true, true, true, true, true, true, true, true, true, true, true, true, true, true, false, false, false, false, false] rfl rfl (any_of HT_.out (by kernel_rfl)) (fun _ _ _ h => h) (Or.inl ⟨by rfl, ?_⟩) ?_ ?_
            rotate_left
            · intro w'; go_simp; with_reducible rfl
            rotate_left
            · simp only [Act.put, List.setIfInBounds_toArray, List.set_cons_zero, List.set_cons_succ, i64_w, i32_w]; rfl
            refine pure_ (i := 16) (N := some 47) (v := ?_) (a' := ?_) #[true, true, true, true, true, true, true, true, true, true, true, true, true, true, true, true, true, false, false, false, false] rfl rfl (any_of HT_.out (by kernel_rfl)) (fun _ _ _ h => h) (Or.inl ⟨by rfl, ?_⟩) ?_ ?_
            rotate_left
            · intro w'; go_simp; with_reducible rfl
            rotate_left
            · simp only [Act.put, List.setIfInBounds_toArray, List.set_cons_zero, List.set_cons_succ, i64_w, i32_w]; rfl
            refine pure_ (i := 17) (N := some 48) (v := ?_) (a' := ?_) #[true, true, true, true, true, true, true, true, true, true, true, true, true, true, true, true, true, true, false, false, false] rfl rfl (any_of HT_.out (by kernel_rfl)) (fun _ _ _ h => h) (Or.inl ⟨by rfl, ?_⟩) ?_ ?_
            rotate_left
            · intro w'; go_simp; with_reducible rfl
            rotate_left
            · simp only [Act.put, List.setIfInBounds_toArray, List.set_cons_zero, List.set_cons_succ, i64_w, i32_w]; rfl
            refine one_ (i := 18) (N := some 49) #[true, true, true, true, true, true, true, true, true, true, true, true, true, true, true, true, true, true, true, false, false] rfl rfl (one_of HT_.out (by kernel_rfl)) (by decide) (fun K hK => ?_)
            generalize he : wrap64 (n + wrap64 (IntKind.u8.wrap (f0.tdiv 16))) = e
            generalize he2 : wrap64 (wrap64 f1 * 40) = e2
            have HE := Aside0.mk he
            have HE2 := Aside0.mk he2
            clear he he2
            refine event_step (w1 := wr.drew.alloc (.cells #[.int .i64 e, .int .i64 e2] 43)) (v := .slice (some ⟨wr.heap.size, 0, none⟩) 1 1) (by rfl) ?_ ?_
            · go_simp
            have hb1 : Below wr.heap.size wr (wr.drew.alloc (.cells #[.int .i64 e, .int .i64 e2] 43)) := (Below.refl _ wr).drew.alloc (Nat.le_refl _) _
            have HB1 := Aside0.mk hb1
            clear hb1
            refine hK.out _ _ ⟨(HB1.out.cell (World.block_lt_of_cell? wr _ h0)).trans h0, (HB1.out.cell (World.block_lt_of_cell? wr _ h1)).trans h1⟩ (fun hHeld => ?_)
            clear hK K
            refine norm_ (a' := ?_) ?_ ?_
            rotate_left
            · show Act.put _ (some 49) _ = _; simp only [Act.put, List.setIfInBounds_toArray, List.set_cons_zero, List.set_cons_succ, i64_w, i32_w]; rfl
            refine one_ (i := 19) (N := some 50) #[true, true, true, true, true, true, true, true, true, true, true, true, true, true, true, true, true, true, true, true, false] rfl rfl (one_of HT_.out (by kernel_rfl)) (by decide) (fun K hK => ?_)
            refine Kd.R_append_step k43 (w0 := w) w.heap.size (by rfl) (.tmp 31) (.tmp 49) 23 43 (.agg #[.int .i64 0, .int .i64 0]) 16 rfl Try.underlying23 info43 rfl (by decide) (by decide) _ _ ⟨e, e2⟩ [.int .i64 e, .int .i64 e2] (fun _ => True) (fun _ => False) rfl rfl (k43_mkM _ _ _ ⟨e, e2⟩) (fun b hb => hb.elim) (fun _ _ => trivial) (Kd.R_drew HV9.out) HB9.out.drew HB9.out.size (by rw [List.length_map, List.length_take]; omega) ?_
            intro v1 w5 ho hb hg hat
            have HV5 := Aside0.mk ho
            have HB5 := Aside0.mk hb
            refine hK.out _ _ ⟨(hb.cell (World.block_lt_of_cell? w _ HC0.out)).trans HC0.out, (hb.cell (World.block_lt_of_cell? w _ HC1.out)).trans HC1.out⟩ (fun hHeld => ?_)
            clear hK K ho hb hg hat
            refine norm_ (a' := ?_) ?_ ?_
            rotate_left
            · show Act.put _ (some 50) _ = _; simp only [Act.put, List.setIfInBounds_toArray, List.set_cons_zero, List.set_cons_succ, i64_w, i32_w]; rfl
            refine pure_ (i := 20) (N := some 3) (v := ?_) (a' := ?_) #[true, true, true, true, true, true, true, true, true, true, true, true, true, true, true, true, true, true, true, true, true] rfl rfl (any_of HT_.out (by kernel_rfl)) (fun _ _ _ h => h) (Or.inl ⟨by rfl, ?_⟩) ?_ ?_
            rotate_left
            · intro w'; go_simp; with_reducible rfl
            rotate_left
            · simp only [Act.put, List.setIfInBounds_toArray, List.set_cons_zero, List.set_cons_succ, i64_w, i32_w]; rfl
            refine done_ (done_of HT_.out (by kernel_rfl)) ?_
            clear hHeld HT_ HW_ h0 h1
            have hpe : (⟨e, e2⟩ : S43) = madeP p := by
              have e1 := HE.out
              have e3 := HE2.out
              unfold madeP
              rw [← HF0.out, ← HF1.out, ← e1, ← e3, HM.out, Int.toNat_natCast, ← HN.out]
              have ht : f0.tdiv 16 = f0 / 16 := Int.tdiv_eq_ediv_of_nonneg (by omega)
              rw [ht]
              congr 1
              · rw [IntKind.wrap_u8]; unfold wrap64; omega
              · unfold wrap64; omega
            have HV6 : Aside0 (Kd.R k43 43 w5 w.heap.size (fun _ => True) v1 ((l.take (k + 1)).map madeP)) := ⟨by rw [madeL_succ HX.out h60, ← hpe]; exact HV5.out⟩
            clear hpe
            go_wp2
            go_roundw
            case rel => exact ⟨k + 1, by omega, by omega, by go_num, HB5, HV6⟩
            case measure => simp [intOf]; omega
      · go_wp2
        go_ret
        obtain rfl : k = 60 := by omega
        exact ⟨_, rfl, HV.out, HB.out⟩
    · obtain rfl : k = l.length := by omega
      go_wp2
      go_ret
      exact ⟨_, rfl, by rw [madeL, List.take_of_length_le (by omega)]; have := HV.out; rw [List.take_length] at this; exact this, HB.out⟩

def bytesB (p : S50) : Bool := decide (0 ≤ p.f0) && decide (p.f0 ≤ 255) && decide (0 ≤ p.f1) && decide (p.f1 ≤ 255)
/-- In the printer's form. -/
def chapmanref36_Made.f (l0 : List S50) : Option (List S43) := if l0.all bytesB then some (madeL l0) else none
theorem chapmanref36_Made.calls (A0 : Option Addr) (c0 : Nat) (l0 : List S50) (r : List S43) (w : World) (hr0 : Kd.C k50 w A0 l0.length l0) (hc0 : l0.length ≤ c0) (h : chapmanref36_Made.f l0 = some r) :
    Calls Try.prog 10 #[.slice A0 l0.length c0] w fun e w' => ∃ v0_ : Value, e = .returned v0_ ∧ Kd.R k43 43 w' w.heap.size (fun _ => True) v0_ r ∧ Below w.heap.size w w' := by
  unfold chapmanref36_Made.f at h
  split at h
  · rename_i hb
    injection h with h
    subst h
    refine made10 A0 c0 l0 w hr0 hc0 (fun p hp => ?_)
    have := List.all_eq_true.1 hb p hp
    simp only [bytesB, Bool.and_eq_true, decide_eq_true_eq] at this
    omega
  · cases h
end Go.Proofs.Ytckempgpaojljaa.P
end
section
/- What the printed functions tell, in plain terms: pieces, levels, validity, equality of lists, sums. -/
namespace Go.Proofs.Ytckempgpaojljaa.P
set_option linter.unusedVariables false
set_option linter.unusedSimpArgs false
open Go.RowKit Go.Proofs.YtckempgpaojljaaW.PrintWords Go.Proofs.YtckempgpaojljaaW.PrintLast Go.Proofs.YtckempgpaojljaaW.PrintMore

/-- With rounds enough, it tells r. -/
def Evt {α : Type} (g : Nat → Option α) (r : α) : Prop := ∃ K, ∀ k, K ≤ k → g k = some r
theorem Evt.pure {α : Type} (r : α) : Evt (fun _ => some r) r := ⟨0, fun _ _ => rfl⟩
theorem Evt.of {α : Type} {g : Nat → Option α} {r : α} (h : ∀ k, g k = some r) : Evt g r := ⟨0, fun k _ => h k⟩
theorem Evt.bind {α β : Type} {g : Nat → Option α} {h : Nat → α → Option β} {a : α} {r : β} (hg : Evt g a) (hh : Evt (fun k => h k a) r) : Evt (fun k => (g k).bind (h k)) r := by
  obtain ⟨K1, h1⟩ := hg
  obtain ⟨K2, h2⟩ := hh
  refine ⟨max K1 K2, fun k hk => ?_⟩
  show (g k).bind (h k) = some r
  rw [h1 k (by omega)]
  exact h2 k (by omega)
theorem Evt.step {α : Type} {g b : Nat → Option α} {r : α} (hb : Evt b r) (h : ∀ k, g (k + 1) = b k) : Evt g r := by
  obtain ⟨K, hK⟩ := hb
  refine ⟨K + 1, fun k hk => ?_⟩
  obtain ⟨m, rfl⟩ : ∃ m, k = m + 1 := ⟨k - 1, by omega⟩
  rw [h m]
  exact hK m (by omega)
theorem Evt.step' {α : Type} {g b : Nat → Option α} {r : α} (hb : Evt b r) (h : ∃ K, ∀ k, K ≤ k → g (k + 1) = b k) : Evt g r := by
  obtain ⟨K, hK⟩ := hb
  obtain ⟨K2, h2⟩ := h
  refine ⟨max K K2 + 1, fun k hk => ?_⟩
  obtain ⟨m, rfl⟩ : ∃ m, k = m + 1 := ⟨k - 1, by omega⟩
  rw [h2 m (by omega)]
  exact hK m (by omega)
theorem Evt.congr {α : Type} {g b : Nat → Option α} {r : α} (hb : Evt b r) (h : ∃ K, ∀ k, K ≤ k → g k = b k) : Evt g r := by
  obtain ⟨K, hK⟩ := hb
  obtain ⟨K2, h2⟩ := h
  refine ⟨max K K2, fun k hk => ?_⟩
  rw [h2 k (by omega)]
  exact hK k (by omega)
theorem Evt.loop {α : Type} (g : Nat → Nat → Option α) (n : Nat) {r : α} (he : Evt (g n) r) (hs : ∀ i, i < n → ∀ k, g i (k + 1) = g (i + 1) k) : Evt (g 0) r := by
  have : ∀ j, j ≤ n → Evt (g (n - j)) r := by
    intro j
    induction j with
    | zero => intro _; exact he
    | succ j ih =>
      intro hj
      refine (ih (by omega)).step (fun k => ?_)
      have := hs (n - (j + 1)) (by omega) k
      rw [show n - (j + 1) + 1 = n - j by omega] at this
      exact this
  have := this n (Nat.le_refl _)
  rwa [Nat.sub_self] at this
theorem Evt.loop' {α : Type} (g : Nat → Nat → Option α) (n : Nat) {r : α} (he : Evt (g n) r) (hs : ∀ i, i < n → ∃ K, ∀ k, K ≤ k → g i (k + 1) = g (i + 1) k) : Evt (g 0) r := by
  have : ∀ j, j ≤ n → Evt (g (n - j)) r := by
    intro j
    induction j with
    | zero => intro _; exact he
    | succ j ih =>
      intro hj
      refine (ih (by omega)).step' ?_
      have := hs (n - (j + 1)) (by omega)
      rw [show n - (j + 1) + 1 = n - j by omega] at this
      exact this
  have := this n (Nat.le_refl _)
  rwa [Nat.sub_self] at this
theorem Evt.uniq {α : Type} {g : Nat → Option α} {r s : α} (h1 : Evt g r) (h2 : Evt g s) : r = s := by
  obtain ⟨K1, h1⟩ := h1
  obtain ⟨K2, h2⟩ := h2
  have a := h1 (max K1 K2) (by omega)
  have b := h2 (max K1 K2) (by omega)
  rw [a] at b
  exact Option.some.inj b

theorem w64in (n : Int) (h : -9223372036854775808 ≤ n ∧ n ≤ 9223372036854775807) : wrap64 n = n := by unfold wrap64; omega
theorem w64 {i : Nat} (h : i ≤ 9223372036854775807) : wrap64 (i : Int) = i := w64in _ (by omega)
theorem w64s {i : Nat} (h : i < 9223372036854775807) : wrap64 ((i : Int) + 1) = ((i + 1 : Nat) : Int) := (w64in ((i : Int) + 1) (by omega)).trans (by omega)

theorem rd43 {l : List S43} {i : Nat} (h : i < l.length) : rd_T43 l (i : Int) = l[i] := by simp [rd_T43, List.getD_eq_getElem?_getD, h]
theorem rd59 {l : List S59} {i : Nat} (h : i < l.length) : rd_T59 l (i : Int) = l[i] := by simp [rd_T59, List.getD_eq_getElem?_getD, h]
theorem rdL5 {l : List (List Int)} {i : Nat} (h : i < l.length) : rd_L5 l (i : Int) = l[i] := by simp [rd_L5, List.getD_eq_getElem?_getD, h]
theorem rdI {l : List Int} {i : Nat} (h : i < l.length) : rd l (i : Int) = l[i] := by simp [rd, List.getD_eq_getElem?_getD, h]

/-- The program's pieces. -/
def pcs (l : List S43) : List S59 := l.map fun p => ⟨p.f0, p.f1⟩
theorem pcs_length (l : List S43) : (pcs l).length = l.length := by simp [pcs]
/-- And back. -/
def unp (l : List S59) : List S43 := l.map fun p => ⟨p.f0, p.f1⟩

theorem map_take_succ {α β : Type} (f : α → β) (l : List α) {i : Nat} (h : i < l.length) : (l.take (i + 1)).map f = (l.take i).map f ++ [f l[i]] := by
  rw [List.take_add_one, List.getElem?_eq_getElem h, List.map_append]
  rfl

theorem pieces_ev (l : List S43) (h : l.length ≤ 1000000) : Evt (fun k => chapmanlaw36_pieces.f k l) (pcs l) := by
  refine Evt.loop (fun i k => chapmanlaw36_pieces.l0 k l ((l.take i).map fun p => ⟨p.f0, p.f1⟩) (i : Int)) l.length ?_ (fun i hi k => ?_)
  · refine (Evt.pure _).step (fun k => ?_)
    show (if _ then _ else _) = _
    rw [if_neg (by omega), List.take_length]
    rfl
  · show (if _ then _ else _) = _
    rw [if_pos (by omega), if_pos (by omega), if_pos (by rw [List.length_map, List.length_take]; omega), w64s (by omega), rd43 hi, map_take_succ _ _ hi]

theorem level_ev (n : Int) (h : n ≤ 9223372036854775807) : Evt (fun k => cost_Level.f k n) (lv n.toNat) := by
  have key : ∀ (m : Nat) (n : Int) (j : Int), n.toNat ≤ m → n ≤ 9223372036854775807 → -1 ≤ j → j + 1 + lv n.toNat ≤ 1000 → Evt (fun k => cost_Level.l0 k n j) (j + 1 + lv n.toNat) := by
    intro m
    induction m using Nat.strongRecOn with
    | _ m ih =>
      intro n j hm hn hj hb
      by_cases hp : 0 < n
      · have e := lv_pos n.toNat (by omega)
        have e2 : (Int.tdiv n 4).toNat = n.toNat / 4 := by
          rw [Int.tdiv_eq_ediv_of_nonneg (by omega)]; omega
        have hb2 := lv_bd (n.toNat / 4)
        have e3 : wrap64 (Int.tdiv n 4) = Int.tdiv n 4 := w64in _ (by rw [Int.tdiv_eq_ediv_of_nonneg (by omega)]; omega)
        have e4 : wrap64 (j + 1) = j + 1 := w64in _ (by omega)
        have := ih (n.toNat / 4) (by omega) (Int.tdiv n 4) (j + 1) (by rw [e2]; exact Nat.le_refl _) (by rw [Int.tdiv_eq_ediv_of_nonneg (by omega)]; omega) (by omega) (by rw [e2]; omega)
        rw [e2] at this
        rw [show j + 1 + lv n.toNat = j + 1 + 1 + lv (n.toNat / 4) by omega]
        refine this.step (fun k => ?_)
        show (if _ then _ else _) = _
        rw [if_pos (by omega), e3, e4]
      · have e : n.toNat = 0 := by omega
        rw [e, lv_zero]
        refine (Evt.pure _).step (fun k => ?_)
        show (if _ then _ else _) = _
        rw [if_neg (by omega)]
        congr 1
        omega
  have h2 := lv_lt 32 n.toNat (by omega)
  have := key n.toNat n (-1) (Nat.le_refl _) h (by omega) (by omega)
  rwa [show (-1 : Int) + 1 + lv n.toNat = lv n.toNat by omega] at this
theorem rlevel_ev (n : Int) (h : n ≤ 9223372036854775807) : Evt (fun k => chapmanref36_Level.f k n) (lv n.toNat) := by
  have e : ∀ k n j, chapmanref36_Level.l0 k n j = cost_Level.l0 k n j := by
    intro k
    induction k with
    | zero => intros; rfl
    | succ k ih =>
      intro n j
      show (if _ then _ else _) = (if _ then _ else _)
      rw [ih]
  have := level_ev n h
  refine this.congr ⟨0, fun k _ => e k n (-1)⟩

theorem rvalid_ev (l : List S43) (h : l.length ≤ 1000000) : Evt (fun k => chapmanref36_Valid.f k l) (validL (pcs l)) := by
  have key : ∀ m i : Nat, i + m = l.length → Evt (fun k => chapmanref36_Valid.l0 k l (i : Int)) (decide (l.length ≤ 512) && (l.drop i).all fun p => !oddP ⟨p.f0, p.f1⟩) := by
    intro m
    induction m with
    | zero =>
      intro i hi
      refine (Evt.pure _).step (fun k => ?_)
      show (if _ then _ else _) = _
      rw [if_neg (by omega), List.drop_of_length_le (by omega), List.all_nil, Bool.and_true]
      congr 1
      exact decide_eq_decide.2 (by omega)
    | succ m ih =>
      intro i hi
      have hlt : i < l.length := by omega
      have ih := ih (i + 1) (by omega)
      rw [List.drop_eq_getElem_cons hlt, List.all_cons]
      by_cases ho : oddP ⟨l[i].f0, l[i].f1⟩ = true
      · rw [ho]
        simp only [Bool.not_true, Bool.false_and, Bool.and_false]
        refine (Evt.pure _).step (fun k => ?_)
        show (if _ then _ else _) = _
        rw [if_pos (by omega), if_pos (by omega), rd43 hlt]
        simp only [oddP, Bool.or_eq_true, decide_eq_true_eq] at ho
        repeat' (split; · rfl)
        omega
      · have ho' : oddP ⟨l[i].f0, l[i].f1⟩ = false := by simpa using ho
        rw [ho']
        simp only [Bool.not_false, Bool.true_and]
        refine ih.step (fun k => ?_)
        show (if _ then _ else _) = _
        rw [if_pos (by omega), if_pos (by omega), rd43 hlt]
        simp only [oddP, Bool.or_eq_false_iff, decide_eq_false_iff_not] at ho'
        rw [if_neg (by omega), if_neg (by omega), if_neg (by omega), if_neg (by omega), w64s (by omega)]
  have := key l.length 0 (by omega)
  simp only [List.drop_zero] at this
  have e : validL (pcs l) = (decide (l.length ≤ 512) && l.all fun p => !oddP ⟨p.f0, p.f1⟩) := by
    simp [validL, pcs, List.all_map]
    rfl
  rw [e]
  exact this
end Go.Proofs.Ytckempgpaojljaa.P
end
section
/- What the printed functions tell, in plain terms: equality of lists, sums, sorted unions, membership. -/
namespace Go.Proofs.Ytckempgpaojljaa.P
set_option linter.unusedVariables false
set_option linter.unusedSimpArgs false
open Go.RowKit Go.Proofs.YtckempgpaojljaaW.PrintWords Go.Proofs.YtckempgpaojljaaW.PrintLast Go.Proofs.YtckempgpaojljaaW.PrintMore

theorem cdec_eq {α : Type} [DecidableEq α] {x y : α} {a b : List α} (e : x = y) : decide (x :: a = y :: b) = decide (a = b) := decide_eq_decide.2 (by rw [List.cons.injEq]; exact ⟨fun h => h.2, fun h => ⟨e, h⟩⟩)
theorem cdec_ne {α : Type} [DecidableEq α] {x y : α} {a b : List α} (e : ¬ x = y) : decide (x :: a = y :: b) = false := decide_eq_false (by rw [List.cons.injEq]; exact fun h => e h.1)
theorem mdec_ne {x a : Int} {l : List Int} (e : ¬ x = a) : decide (a ∈ x :: l) = decide (a ∈ l) := decide_eq_decide.2 (by rw [List.mem_cons]; exact ⟨fun h => h.elim (fun h => absurd h.symm e) id, Or.inr⟩)
theorem mdec_eq {x a : Int} {l : List Int} (e : x = a) : decide (a ∈ x :: l) = true := decide_eq_true (by rw [e]; exact List.mem_cons_self)
theorem ints_ev (a b : List Int) (h : a.length ≤ 1000000) : Evt (fun k => chapmanref03_Ints.f k a b) (decide (a = b)) := by
  by_cases hl : a.length = b.length
  · have key : ∀ m i : Nat, i + m = a.length → Evt (fun k => chapmanref03_Ints.l0 k a b (i : Int)) (decide (a.drop i = b.drop i)) := by
      intro m
      induction m with
      | zero =>
        intro i hi
        refine (Evt.pure _).step (fun k => ?_)
        show (if _ then _ else _) = _
        rw [if_neg (by omega), List.drop_of_length_le (by omega), List.drop_of_length_le (by omega)]
        rfl
      | succ m ih =>
        intro i hi
        have h1 : i < a.length := by omega
        have h2 : i < b.length := by omega
        have ih := ih (i + 1) (by omega)
        rw [List.drop_eq_getElem_cons h1, List.drop_eq_getElem_cons h2]
        by_cases e : a[i] = b[i]
        · rw [cdec_eq e]
          refine ih.step (fun k => ?_)
          show (if _ then _ else _) = _
          rw [if_pos (by omega), if_pos (by omega), if_pos (by omega), rdI h1, rdI h2, if_pos e, w64s (by omega)]
        · rw [cdec_ne e]
          refine (Evt.pure _).step (fun k => ?_)
          show (if _ then _ else _) = _
          rw [if_pos (by omega), if_pos (by omega), if_pos (by omega), rdI h1, rdI h2, if_neg e]
    have := key a.length 0 (by omega)
    simp only [List.drop_zero] at this
    refine this.congr ⟨0, fun k _ => ?_⟩
    show (if _ then _ else _) = _
    rw [if_pos (by omega)]
    rfl
  · rw [decide_eq_false (fun e => hl (by rw [e]))]
    refine Evt.of (fun k => ?_)
    show (if _ then _ else _) = _
    rw [if_neg (by omega)]

theorem sameGroups_ev (a b : List (List Int)) (h : a.length ≤ 1000000) (hi : ∀ x ∈ a, x.length ≤ 1000000) : Evt (fun k => chapmanref36_SameGroups.f k a b) (decide (a = b)) := by
  by_cases hl : a.length = b.length
  · have key : ∀ m i : Nat, i + m = a.length → Evt (fun k => chapmanref36_SameGroups.l0 k a b (i : Int)) (decide (a.drop i = b.drop i)) := by
      intro m
      induction m with
      | zero =>
        intro i hi
        refine (Evt.pure _).step (fun k => ?_)
        show (if _ then _ else _) = _
        rw [if_neg (by omega), List.drop_of_length_le (by omega), List.drop_of_length_le (by omega)]
        rfl
      | succ m ih =>
        intro i him
        have h1 : i < a.length := by omega
        have h2 : i < b.length := by omega
        have ih := ih (i + 1) (by omega)
        have hints := ints_ev a[i] b[i] (hi _ (List.getElem_mem h1))
        rw [List.drop_eq_getElem_cons h1, List.drop_eq_getElem_cons h2]
        by_cases e : a[i] = b[i]
        · rw [cdec_eq e]
          obtain ⟨K, hK⟩ := hints
          refine ih.step' ⟨K, fun k hk => ?_⟩
          show (if _ then _ else _) = _
          rw [if_pos (by omega), if_pos (by omega), if_pos (by omega), rdL5 h1, rdL5 h2, show chapmanref03_Ints.f k a[i] b[i] = _ from hK k hk, decide_eq_true e, Option.bind_some, if_pos rfl, w64s (by omega)]
        · rw [cdec_ne e]
          obtain ⟨K, hK⟩ := hints
          refine (Evt.pure _).step' ⟨K, fun k hk => ?_⟩
          show (if _ then _ else _) = _
          rw [if_pos (by omega), if_pos (by omega), if_pos (by omega), rdL5 h1, rdL5 h2, show chapmanref03_Ints.f k a[i] b[i] = _ from hK k hk, decide_eq_false e]
          rfl
    have := key a.length 0 (by omega)
    simp only [List.drop_zero] at this
    refine this.congr ⟨0, fun k _ => ?_⟩
    show (if _ then _ else _) = _
    rw [if_pos (by omega)]
    rfl
  · rw [decide_eq_false (fun e => hl (by rw [e]))]
    refine Evt.of (fun k => ?_)
    show (if _ then _ else _) = _
    rw [if_neg (by omega)]

theorem s43_ext {p q : S43} (h0 : p.f0 = q.f0) (h1 : p.f1 = q.f1) : p = q := by cases p; cases q; simp_all
theorem samePieces_ev (a b : List S43) (h : a.length ≤ 1000000) : Evt (fun k => chapmanref36_SamePieces.f k a b) (decide (a.map (fun p => (p.f0, p.f1)) = b.map fun p => (p.f0, p.f1))) := by
  by_cases hl : a.length = b.length
  · have key : ∀ m i : Nat, i + m = a.length → Evt (fun k => chapmanref36_SamePieces.l0 k a b (i : Int)) (decide ((a.drop i).map (fun p => (p.f0, p.f1)) = (b.drop i).map fun p => (p.f0, p.f1))) := by
      intro m
      induction m with
      | zero =>
        intro i hi
        refine (Evt.pure _).step (fun k => ?_)
        show (if _ then _ else _) = _
        rw [if_neg (by omega), List.drop_of_length_le (by omega), List.drop_of_length_le (by omega)]
        rfl
      | succ m ih =>
        intro i him
        have h1 : i < a.length := by omega
        have h2 : i < b.length := by omega
        have ih := ih (i + 1) (by omega)
        rw [List.drop_eq_getElem_cons h1, List.drop_eq_getElem_cons h2, List.map_cons, List.map_cons]
        by_cases e : a[i].f0 = b[i].f0 ∧ a[i].f1 = b[i].f1
        · rw [cdec_eq (Prod.ext e.1 e.2)]
          refine ih.step (fun k => ?_)
          show (if _ then _ else _) = _
          rw [if_pos (by omega), if_pos (by omega), if_pos (by omega), rd43 h1, rd43 h2, if_neg (by simp [e]), w64s (by omega)]
        · rw [cdec_ne (fun h => e ⟨congrArg Prod.fst h, congrArg Prod.snd h⟩)]
          refine (Evt.pure _).step (fun k => ?_)
          show (if _ then _ else _) = _
          rw [if_pos (by omega), if_pos (by omega), if_pos (by omega), rd43 h1, rd43 h2, if_pos (by simp; by_cases e0 : a[i].f0 = b[i].f0 <;> simp_all)]
    have := key a.length 0 (by omega)
    simp only [List.drop_zero] at this
    refine this.congr ⟨0, fun k _ => ?_⟩
    show (if _ then _ else _) = _
    rw [if_pos (by omega)]
    rfl
  · rw [decide_eq_false (fun e => hl (by have := congrArg List.length e; simpa using this))]
    refine Evt.of (fun k => ?_)
    show (if _ then _ else _) = _
    rw [if_neg (by omega)]
theorem samePieces_self (a : List S43) (h : a.length ≤ 1000000) : Evt (fun k => chapmanref36_SamePieces.f k a a) true := by
  have := samePieces_ev a a h
  rwa [decide_eq_true rfl] at this

theorem alike_self (g : List (List Int)) (l : List S43) (n e : Int) (hg : g.length ≤ 1000000) (hi : ∀ x ∈ g, x.length ≤ 1000000) (hl : l.length ≤ 1000000) : Evt (fun k => chapmanref36_Alike.f k g l n e g l n e) true := by
  have h1 := sameGroups_ev g g hg hi
  rw [decide_eq_true rfl] at h1
  have h2 := samePieces_self l hl
  have : Evt (fun k => (chapmanref36_SameGroups.f k g g).bind fun t292 => (if t292 = true then ((chapmanref36_SamePieces.f k l l).bind fun t293 => (some t293)) else (some false))) true := by
    refine h1.bind (h := fun k t => if t = true then ((chapmanref36_SamePieces.f k l l).bind fun t293 => (some t293)) else (some false)) ?_
    simp only [if_true]
    exact h2.bind (h := fun _ t => some t) (Evt.pure _)
  refine this.congr ⟨0, fun k _ => ?_⟩
  show (if _ then _ else _) = _
  rw [if_pos rfl, if_pos rfl]

theorem in_ev (l : List Int) (a : Int) (h : l.length ≤ 1000000) : Evt (fun k => chapmanref03_In.f k l a) (decide (a ∈ l)) := by
  have key : ∀ m i : Nat, i + m = l.length → Evt (fun k => chapmanref03_In.l0 k l a (i : Int)) (decide (a ∈ l.drop i)) := by
    intro m
    induction m with
    | zero =>
      intro i hi
      refine (Evt.pure _).step (fun k => ?_)
      show (if _ then _ else _) = _
      rw [if_neg (by omega), List.drop_of_length_le (by omega)]
      rfl
    | succ m ih =>
      intro i hi
      have h1 : i < l.length := by omega
      have ih := ih (i + 1) (by omega)
      rw [List.drop_eq_getElem_cons h1]
      by_cases e : l[i] = a
      · rw [mdec_eq e]
        refine (Evt.pure _).step (fun k => ?_)
        show (if _ then _ else _) = _
        rw [if_pos (by omega), if_pos (by omega), rdI h1, if_pos e]
      · rw [mdec_ne e]
        refine ih.step (fun k => ?_)
        show (if _ then _ else _) = _
        rw [if_pos (by omega), if_pos (by omega), rdI h1, if_neg e, w64s (by omega)]
  have := key l.length 0 (by omega)
  rw [List.drop_zero] at this
  exact this

theorem sum_ev (l : List S43) (g : List Int) (hg : g.length ≤ 1000) (hi : ∀ i ∈ g, 0 ≤ i ∧ i < l.length) (hb : ∀ p ∈ l, 0 ≤ p.f0 ∧ p.f0 ≤ 1000000000000 ∧ 0 ≤ p.f1 ∧ p.f1 ≤ 1000000000000) :
    Evt (fun k => chapmanref36_sum.f k l g) (sumG (fun i => (rd_T43 l i).f0) g, sumG (fun i => (rd_T43 l i).f1) g) := by
  have hm : ∀ i ∈ g, rd_T43 l i ∈ l := fun i h => by
    have := hi i h
    have h2 : i.toNat < l.length := by omega
    simp [rd_T43, List.getD_eq_getElem?_getD, h2]
  have b0 := psum_bd (fun i => (rd_T43 l i).f0) g 1000000000000 (fun i h => by have := hb _ (hm i h); omega)
  have b1 := psum_bd (fun i => (rd_T43 l i).f1) g 1000000000000 (fun i h => by have := hb _ (hm i h); omega)
  have := Evt.loop (fun i k => chapmanref36_sum.l0 k l g (i : Int) (psum (fun i => (rd_T43 l i).f0) g i) (psum (fun i => (rd_T43 l i).f1) g i)) g.length (r := (sumG (fun i => (rd_T43 l i).f0) g, sumG (fun i => (rd_T43 l i).f1) g)) ?_ (fun i hi2 k => ?_)
  · rw [psum_zero, psum_zero] at this
    exact this
  · refine (Evt.pure _).step (fun k => ?_)
    show (if _ then _ else _) = _
    rw [if_neg (by omega), psum_all, psum_all]
    rfl
  · have h1 := hi _ (List.getElem_mem hi2)
    have c0 := b0 (i + 1) (by omega)
    have c1 := b1 (i + 1) (by omega)
    rw [psum_succ _ _ _ _ (List.getElem?_eq_getElem hi2)] at c0 c1
    show (if _ then _ else _) = _
    rw [if_pos (by omega), if_pos (by omega), rdI hi2, if_pos h1.1, if_pos h1.2, w64s (by omega), w64in _ (by omega), w64in _ (by omega)]
    show _ = chapmanref36_sum.l0 k l g ((i + 1 : Nat) : Int) _ _
    rw [psum_succ _ _ _ _ (List.getElem?_eq_getElem hi2), psum_succ _ _ _ _ (List.getElem?_eq_getElem hi2)]

/-- The union of two lists as merged makes it. -/
def mrgI (a b : List Int) : List Int := List.merge b a fun x y => decide (x ≤ y)
theorem mrgI_nil (a : List Int) : mrgI a [] = a := by simp [mrgI]
theorem mrgI_nil2 (b : List Int) : mrgI [] b = b := by simp [mrgI]
theorem mrgI_cons (x : Int) (a : List Int) (y : Int) (b : List Int) : mrgI (x :: a) (y :: b) = if x < y then x :: mrgI a (y :: b) else y :: mrgI (x :: a) b := by
  unfold mrgI
  rw [List.cons_merge_cons]
  by_cases h : x < y
  · rw [if_pos h, if_neg (by simp; omega)]
  · rw [if_neg h, if_pos (by simp; omega)]
theorem mrgI_perm (a b : List Int) : (mrgI a b).Perm (b ++ a) := List.merge_perm_append _
theorem mrgI_len (a b : List Int) : (mrgI a b).length = b.length + a.length := by rw [(mrgI_perm a b).length_eq, List.length_append]
theorem le_trans' (a b c : Int) : decide (a ≤ b) = true → decide (b ≤ c) = true → decide (a ≤ c) = true := by simp; omega
theorem le_total' (a b : Int) : (decide (a ≤ b) || decide (b ≤ a)) = true := by simp; omega
theorem sortI_perm (l : List Int) : (sortI l).Perm l := List.mergeSort_perm _ _
theorem sortI_sorted (l : List Int) : (sortI l).Pairwise fun x y => decide (x ≤ y) = true := List.pairwise_mergeSort le_trans' le_total' l
theorem sorted_unique {l l' : List Int} (h : l.Pairwise fun x y => decide (x ≤ y) = true) (h' : l'.Pairwise fun x y => decide (x ≤ y) = true) (hp : l.Perm l') : l = l' :=
  List.Perm.eq_of_pairwise (fun a b _ _ h1 h2 => by simp at h1 h2; omega) h h' hp
theorem mrgI_sort (a b : List Int) : mrgI (sortI a) (sortI b) = sortI (a ++ b) := by
  refine sorted_unique (List.pairwise_merge le_trans' le_total' _ _ (sortI_sorted b) (sortI_sorted a)) (sortI_sorted _) ?_
  refine (mrgI_perm _ _).trans (((sortI_perm b).append (sortI_perm a)).trans (List.perm_append_comm.trans (sortI_perm _).symm))

theorem merged_ev (a b : List Int) (ha : a.length ≤ 1000000) (hb : b.length ≤ 1000000) : Evt (fun k => chapmanref36_merged.f k a b) (mrgI a b) := by
  have key : ∀ m i j : Nat, i ≤ a.length → j ≤ b.length → (a.length - i) + (b.length - j) ≤ m → ∀ out : List Int, out.length + (a.length - i) + (b.length - j) ≤ 3000000 →
      Evt (fun k => chapmanref36_merged.l0 k a b out (i : Int) (j : Int)) (out ++ mrgI (a.drop i) (b.drop j)) ∧ (j < b.length → Evt (fun k => chapmanref36_merged.l1 k a b out (i : Int) (j : Int)) (out ++ mrgI (a.drop i) (b.drop j))) := by
    intro m
    induction m with
    | zero =>
      intro i j hi hj hm out ho
      refine ⟨?_, fun h => by omega⟩
      refine (Evt.pure _).step (fun k => ?_)
      show (if _ then _ else _) = _
      rw [if_neg (by omega), if_pos (by omega), if_pos (by omega), Int.toNat_natCast, show b.drop j = [] from List.drop_of_length_le (by omega), mrgI_nil, if_pos (by rw [List.length_drop]; omega)]
    | succ m ih =>
      intro i j hi hj hm out ho
      have h1 : j < b.length → Evt (fun k => chapmanref36_merged.l1 k a b out (i : Int) (j : Int)) (out ++ mrgI (a.drop i) (b.drop j)) := by
        intro hjb
        by_cases hia : i < a.length
        · rw [List.drop_eq_getElem_cons hia, List.drop_eq_getElem_cons hjb, mrgI_cons]
          by_cases hlt : a[i] < b[j]
          · rw [if_pos hlt]
            have := (ih (i + 1) j (by omega) hj (by omega) (out ++ [a[i]]) (by simp; omega)).2 hjb
            rw [List.append_assoc, List.singleton_append] at this
            rw [← List.drop_eq_getElem_cons hjb]
            refine this.step (fun k => ?_)
            show (if _ then _ else _) = _
            rw [if_pos (by omega), if_pos (by omega), if_pos (by omega), if_pos (by omega), rdI hia, rdI hjb, if_pos hlt, if_pos (by omega), w64s (by omega)]
          · rw [if_neg hlt]
            have := (ih i (j + 1) hi (by omega) (by omega) (out ++ [b[j]]) (by simp; omega)).1
            rw [List.append_assoc, List.singleton_append] at this
            rw [← List.drop_eq_getElem_cons hia]
            refine this.step (fun k => ?_)
            show (if _ then _ else _) = _
            rw [if_pos (by omega), if_pos (by omega), if_pos (by omega), if_pos (by omega), rdI hia, rdI hjb, if_neg hlt, if_pos (by omega), w64s (by omega)]
        · have := (ih i (j + 1) hi (by omega) (by omega) (out ++ [b[j]]) (by simp; omega)).1
          rw [List.append_assoc, List.singleton_append, show a.drop i = [] from List.drop_of_length_le (by omega), mrgI_nil2] at this
          rw [show a.drop i = [] from List.drop_of_length_le (by omega), mrgI_nil2, List.drop_eq_getElem_cons hjb]
          refine this.step (fun k => ?_)
          show (if _ then _ else _) = _
          rw [if_neg (by omega), if_pos (by omega), if_pos (by omega), if_pos (by omega), rdI hjb, w64s (by omega)]
      refine ⟨?_, h1⟩
      by_cases hjb : j < b.length
      · refine (h1 hjb).step (fun k => ?_)
        show (if _ then _ else _) = _
        rw [if_pos (by omega)]
      · refine (Evt.pure _).step (fun k => ?_)
        show (if _ then _ else _) = _
        rw [if_neg (by omega), if_pos (by omega), if_pos (by omega), Int.toNat_natCast, show b.drop j = [] from List.drop_of_length_le (by omega), mrgI_nil, if_pos (by rw [List.length_drop]; omega)]
  have := (key (a.length + b.length) 0 0 (by omega) (by omega) (by omega) [] (by simp; omega)).1
  rw [List.drop_zero, List.drop_zero, List.nil_append] at this
  exact this
end Go.Proofs.Ytckempgpaojljaa.P
end
section
/- The reference's choice of four clusters, and one step of its loop, against the program's step. -/
namespace Go.Proofs.Ytckempgpaojljaa.P
set_option linter.unusedVariables false
set_option linter.unusedSimpArgs false
open Go.RowKit Go.Proofs.YtckempgpaojljaaW.PrintWords Go.Proofs.YtckempgpaojljaaW.PrintLast Go.Proofs.YtckempgpaojljaaW.PrintMore

/-- What is known of clusters: their numbers are their pieces' sums, their indices are in range. -/
structure InvC (l : List S43) (cs : List (List Int × Int)) : Prop where
  sum : ∀ c ∈ cs, c.2 = sumG (fun i => (rd_T43 l i).f0) c.1
  idx : ∀ c ∈ cs, ∀ i ∈ c.1, 0 ≤ i ∧ i < l.length
/-- The reference's clusters. -/
def refC (cs : List (List Int × Int)) : List (List Int) := cs.map fun c => sortI c.1
theorem refC_length (cs : List (List Int × Int)) : (refC cs).length = cs.length := by simp [refC]
theorem refC_get {cs : List (List Int × Int)} {i : Nat} (h : i < cs.length) : (refC cs)[i]'(by rw [refC_length]; exact h) = sortI (cs.getD i ([], 0)).1 := by
  simp [refC, List.getD_eq_getElem?_getD, h]

theorem perm_sum {a b : List Int} (h : a.Perm b) : a.sum = b.sum := by
  induction h with
  | nil => rfl
  | cons x _ ih => rw [List.sum_cons, List.sum_cons, ih]
  | swap x y l => simp only [List.sum_cons]; omega
  | trans _ _ h1 h2 => exact h1.trans h2
theorem sumG_perm {f : Int → Int} {a b : List Int} (h : a.Perm b) : sumG f a = sumG f b := by
  unfold sumG
  exact perm_sum (h.map f)
theorem sumG_append (f : Int → Int) (a b : List Int) : sumG f (a ++ b) = sumG f a + sumG f b := by simp [sumG]

theorem getD_mem' {α : Type} (l : List α) (i : Nat) (d : α) (h : i < l.length) : l.getD i d ∈ l := getD_mem l i d h

/-- The four that the reference finds. -/
def fourC (cs : List (List Int × Int)) : List Nat := if idx4 (cntC cs) < 0 then [] else (posC cs (idx4 (cntC cs)) cs.length).take 4
def natI (l : List Nat) : List Int := l.map fun (n : Nat) => (n : Int)

theorem posC_len_le (cs : List (List Int × Int)) (lev : Int) (k : Nat) : (posC cs lev k).length ≤ k := by
  have := List.length_filter_le (fun i => decide (lv (cs.getD i ([], 0)).2.toNat = lev)) (List.range k)
  simpa [posC] using this

theorem four_in (l : List S43) (cs : List (List Int × Int)) (hi : InvC l cs) (hok : OkC cs) (hb : ∀ p ∈ l, 0 ≤ p.f0 ∧ p.f0 ≤ 1000000000000 ∧ 0 ≤ p.f1 ∧ p.f1 ≤ 1000000000000) (L : Nat) (hL : L < 16) :
    ∀ m i : Nat, i + m = cs.length → ∀ r, Evt (fun k => if (((posC cs L cs.length).take 4).length : Int) = 4 then some (natI ((posC cs L cs.length).take 4)) else chapmanref36_four.l0 k l (refC cs) (wrap64 ((L : Int) + 1))) r →
      Evt (fun k => chapmanref36_four.l1 k l (refC cs) L (natI ((posC cs L i).take 4)) (i : Int)) r := by
  have hnl := hok.num
  intro m
  induction m with
  | zero =>
    intro i hi r hr
    obtain rfl : i = cs.length := by omega
    refine (hr.step (g := fun k => chapmanref36_four.j2 k l (refC cs) L (natI ((posC cs L cs.length).take 4)) (cs.length : Int) false) (fun k => ?_)).step (fun k => ?_)
    · show (if _ then _ else _) = _
      simp only [natI, List.length_map]
    · show (if _ then _ else _) = _
      rw [if_neg (by rw [refC_length]; omega)]
  | succ m ih =>
    intro i him r hr
    have hlt : i < cs.length := by omega
    have ih := ih (i + 1) (by omega) r hr
    by_cases h4 : ((posC cs L i).take 4).length < 4
    · have hmem := getD_mem cs i ([], 0) hlt
      obtain ⟨hn1, hn2⟩ := hok.nm i hlt
      have hlen : (cs.getD i ([], 0)).1.length ≤ 1000 := by
        have h2 := sum_ge (cs.map fun c => (c.1.length : Int)) (by
          intro z hz
          obtain ⟨c, hc, rfl⟩ := List.mem_map.1 hz
          omega) i (by simpa using hlt)
        have e : (cs.map fun c => (c.1.length : Int)).getD i 0 = ((cs.getD i ([], 0)).1.length : Int) := by simp [List.getD_eq_getElem?_getD, hlt]
        have := hok.sumL
        omega
      have hsum := sum_ev l (sortI (cs.getD i ([], 0)).1) (by rw [sortI_length]; exact hlen) (fun j hj => hi.idx _ hmem j ((sortI_perm _).mem_iff.1 hj)) hb
      rw [sumG_perm (sortI_perm _), ← hi.sum _ hmem] at hsum
      have hlev := rlevel_ev (cs.getD i ([], 0)).2 (by omega)
      obtain ⟨K1, h1⟩ := hsum
      obtain ⟨K2, h2⟩ := hlev
      refine (ih.step' (g := fun k => chapmanref36_four.j2 k l (refC cs) L (natI ((posC cs L i).take 4)) (i : Int) true) ⟨max K1 K2, fun k hk => ?_⟩).step (fun k => ?_)
      · show (if _ then _ else _) = _
        rw [if_pos (by rw [refC_length]; omega), rdL5 (by rw [refC_length]; exact hlt), refC_get hlt]
        rw [show chapmanref36_sum.f k l (sortI (cs.getD i ([], 0)).1) = _ from h1 k (by omega), Option.bind_some]
        show ((chapmanref36_Level.f k (cs.getD i ([], 0)).2).bind _) = _
        rw [show chapmanref36_Level.f k (cs.getD i ([], 0)).2 = _ from h2 k (by omega), Option.bind_some]
        by_cases e : lv (cs.getD i ([], 0)).2.toNat = (L : Int)
        · rw [if_pos e, posC_succ_yes _ _ _ e]
          have hle : (posC cs L i).length < 4 := by rw [List.length_take] at h4; omega
          rw [if_pos (by simp [natI]; omega), w64s (by omega), List.take_of_length_le (by omega), List.take_of_length_le (by rw [List.length_append]; simp; omega)]
          simp [natI]
        · rw [if_neg e, posC_succ_no _ _ _ e, w64s (by omega)]
      · show (if _ then _ else _) = _
        rw [if_pos (by rw [refC_length]; omega), decide_eq_true (by simp only [natI, List.length_map]; omega)]
    · have hpre := posC_le cs (L : Int) (j := i) (k := cs.length) (by omega)
      have hpi : 4 ≤ (posC cs L i).length := by rw [List.length_take] at h4; omega
      have e : (posC cs L cs.length).take 4 = (posC cs L i).take 4 := by
        obtain ⟨t, ht⟩ := hpre
        rw [← ht, List.take_append_of_le_length hpi]
      rw [e] at hr
      refine (hr.step (g := fun k => chapmanref36_four.j2 k l (refC cs) L (natI ((posC cs L i).take 4)) (i : Int) false) (fun k => ?_)).step (fun k => ?_)
      · show (if _ then _ else _) = _
        simp only [natI, List.length_map]
      · show (if _ then _ else _) = _
        rw [if_pos (by rw [refC_length]; omega), decide_eq_false (by simp only [natI, List.length_map]; omega)]

theorem four_ev (l : List S43) (cs : List (List Int × Int)) (hi : InvC l cs) (hok : OkC cs) (hb : ∀ p ∈ l, 0 ≤ p.f0 ∧ p.f0 ≤ 1000000000000 ∧ 0 ≤ p.f1 ∧ p.f1 ≤ 1000000000000) :
    Evt (fun k => chapmanref36_four.f k l (refC cs)) (natI (fourC cs)) := by
  have hc : ∀ L : Nat, L < 16 → ((posC cs L cs.length).length : Int) = (cntC cs).getD L 0 := fun L hL => posC_count cs L hL
  have hcl : (cntC cs).length = 16 := by simp [cntC]
  have key : ∀ m L : Nat, L + m = 16 → (∀ j, j < L → (cntC cs).getD j 0 < 4) → Evt (fun k => chapmanref36_four.l0 k l (refC cs) (L : Int)) (natI (fourC cs)) := by
    intro m
    induction m with
    | zero =>
      intro L hL hp
      have e : idx4 (cntC cs) = -1 := by
        rcases idx4_spec (cntC cs) with h | ⟨j, _, hj, h4⟩
        · exact h
        · exact absurd (hp j (by omega)) (by omega)
      refine (Evt.pure _).step (fun k => ?_)
      show (if _ then _ else _) = _
      rw [if_neg (by omega)]
      simp [fourC, e, natI]
    | succ m ih =>
      intro L hL hp
      have hin := four_in l cs hi hok hb L (by omega) cs.length 0 (by omega) (natI (fourC cs)) ?_
      · refine hin.step (fun k => ?_)
        show (if _ then _ else _) = _
        rw [if_pos (by omega)]
        simp [posC, natI]
      · by_cases h4 : 4 ≤ (cntC cs).getD L 0
        · have e : idx4 (cntC cs) = (L : Int) := idx4_at (cntC cs) L (by omega) hp (by simpa [rd] using h4)
          have hcl := hc L (by omega)
          refine Evt.of (fun k => ?_)
          rw [if_pos (by rw [List.length_take]; omega)]
          unfold fourC
          rw [e, if_neg (by omega)]
        · have hcl := hc L (by omega)
          have hlt : (cntC cs).getD L 0 < 4 := by omega
          have := ih (L + 1) (by omega) (fun j hj => by
            rcases Nat.lt_or_ge j L with h | h
            · exact hp j h
            · obtain rfl : j = L := by omega
              exact hlt)
          refine this.congr ⟨0, fun k _ => ?_⟩
          rw [if_neg (by rw [List.length_take]; omega), w64s (by omega)]
  have := key 16 0 (by omega) (fun j hj => by omega)
  exact this
end Go.Proofs.Ytckempgpaojljaa.P
end
section
/- One step of the reference's loop over clusters, against the program's step. -/
namespace Go.Proofs.Ytckempgpaojljaa.P
set_option linter.unusedVariables false
set_option linter.unusedSimpArgs false
open Go.RowKit Go.Proofs.YtckempgpaojljaaW.PrintWords Go.Proofs.YtckempgpaojljaaW.PrintLast Go.Proofs.YtckempgpaojljaaW.PrintMore

/-- The first k of a list, those at f's places left out, one put in at the first of f. -/
def nextP {α : Type} (f : List Nat) (x : α) (G : List α) : Nat → List α
  | 0 => []
  | k + 1 => nextP f x G k ++ (if some k = f.head? then [x] else []) ++ (if k ∈ f then [] else (G[k]?).toList)
theorem nextP_far {α : Type} (f : List Nat) (x : α) (G : List α) (s t : Nat) (hs : ∀ k, s ≤ k → k < s + t → k ∉ f) (hl : s + t ≤ G.length) : nextP f x G (s + t) = nextP f x G s ++ (G.drop s).take t := by
  induction t with
  | zero => simp
  | succ t ih =>
    have h1 := ih (fun k h1 h2 => hs k h1 (by omega)) (by omega)
    have h2 := hs (s + t) (by omega) (by omega)
    have h3 : ¬ some (s + t) = f.head? := fun e => h2 (List.mem_of_mem_head? (by rw [← e]; rfl))
    rw [← Nat.add_assoc]
    show nextP f x G (s + t) ++ _ ++ _ = _
    rw [if_neg h3, if_neg h2, h1, List.append_nil, List.append_assoc, List.take_add_one, List.getElem?_drop]

theorem split4 {α : Type} (cs : List α) (i0 i1 i2 i3 : Nat) (h0 : i0 < i1) (h1 : i1 < i2) (h2 : i2 < i3) (h3 : i3 < cs.length) :
    ∃ (A B C D E : List α) (c0 c1 c2 c3 : α), cs = A ++ c0 :: (B ++ c1 :: (C ++ c2 :: (D ++ c3 :: E))) ∧ A.length = i0 ∧ A.length + 1 + B.length = i1 ∧ A.length + 1 + B.length + 1 + C.length = i2 ∧ A.length + 1 + B.length + 1 + C.length + 1 + D.length = i3 := by
  refine ⟨cs.take i0, (cs.drop (i0 + 1)).take (i1 - i0 - 1), (cs.drop (i1 + 1)).take (i2 - i1 - 1), (cs.drop (i2 + 1)).take (i3 - i2 - 1), cs.drop (i3 + 1), cs[i0], cs[i1], cs[i2], cs[i3], ?_, ?_, ?_, ?_, ?_⟩
  · have key : ∀ (i j : Nat) (hij : i < j) (hj : j < cs.length), cs.drop (i + 1) = (cs.drop (i + 1)).take (j - i - 1) ++ cs[j] :: cs.drop (j + 1) := fun i j hij hj => by
      have e : cs.drop j = (cs.drop (i + 1)).drop (j - i - 1) := by rw [List.drop_drop]; congr 1; omega
      rw [← List.drop_eq_getElem_cons hj, e, List.take_append_drop]
    rw [← key i2 i3 h2 h3, ← List.drop_eq_getElem_cons (by omega : i2 < cs.length)]
    rw [List.drop_eq_getElem_cons (by omega : i2 < cs.length), ← key i1 i2 h1 (by omega), ← key i0 i1 h0 (by omega), ← List.drop_eq_getElem_cons (by omega : i0 < cs.length), List.take_append_drop]
  all_goals simp
  all_goals omega

theorem mergeC_at (A B R : List (List Int × Int)) (c d : List Int × Int) : mergeC (A ++ c :: (B ++ d :: R)) A.length (A.length + 1 + B.length) = A ++ (c.1 ++ d.1, c.2 + d.2) :: (B ++ R) := by
  have e1 : (A ++ c :: (B ++ d :: R)).getD A.length ([], 0) = c := by simp [List.getD_eq_getElem?_getD]
  have e2 : (A ++ c :: (B ++ d :: R)).getD (A.length + 1 + B.length) ([], 0) = d := by
    rw [List.getD_eq_getElem?_getD, List.getElem?_append_right (by omega), show A.length + 1 + B.length - A.length = B.length + 1 by omega, List.getElem?_cons_succ, List.getElem?_append_right (Nat.le_refl _), Nat.sub_self]
    rfl
  unfold mergeC
  rw [e1, e2, List.set_append_right _ _ (Nat.le_refl _), Nat.sub_self, List.set_cons_zero, List.eraseIdx_append_of_length_le (by omega), show A.length + 1 + B.length - A.length = B.length + 1 by omega, List.eraseIdx_cons_succ, List.eraseIdx_append_of_length_le (Nat.le_refl _), Nat.sub_self, List.eraseIdx_cons_zero]

theorem seg_at {α : Type} (P Q R : List α) {G : List α} (h : G = P ++ (Q ++ R)) {n m : Nat} (hn : n = P.length) (hm : m = Q.length) : (G.drop n).take m = Q := by
  subst h hn hm
  rw [List.drop_left, List.take_left]

/-- The four in one. -/
def allC (cs : List (List Int × Int)) : List Nat → List Int
  | [] => []
  | i :: is => (cs.getD i ([], 0)).1 ++ allC cs is

theorem step_ref (cs cs' : List (List Int × Int)) (h : stepC cs = some cs') : ∃ i0 i1 i2 i3, fourC cs = [i0, i1, i2, i3] ∧ i0 < i1 ∧ i1 < i2 ∧ i2 < i3 ∧ i3 < cs.length ∧ refC cs' = nextP (fourC cs) (sortI (allC cs (fourC cs))) (refC cs) cs.length := by
  unfold stepC at h
  split at h
  · exact absurd h (by simp)
  · rename_i hn
    have hf : fourC cs = (posC cs (idx4 (cntC cs)) cs.length).take 4 := by unfold fourC; rw [if_neg hn]
    have hso : (fourC cs).Pairwise (· < ·) := by rw [hf]; exact (posC_sorted cs _ cs.length).sublist (List.take_sublist _ _)
    have hmem : ∀ i, i ∈ fourC cs → i < cs.length := fun i hi => by
      rw [hf] at hi
      exact (posC_mem (List.mem_of_mem_take hi)).1
    rw [← hf] at h
    generalize fourC cs = F at *
    match F, h with
    | [i0, i1, i2, i3], h =>
      injection h with h
      simp only [List.pairwise_cons, List.mem_cons, List.not_mem_nil, or_false, forall_eq_or_imp, forall_eq] at hso
      have h3 := hmem i3 (by simp)
      obtain ⟨⟨a1, a2, a3⟩, ⟨b1, b2⟩, b3, _⟩ := hso
      refine ⟨i0, i1, i2, i3, rfl, a1, b1, b3, h3, ?_⟩
      obtain ⟨A, B, C, D, E, c0, c1, c2, c3, hcs, l0, l1, l2, l3⟩ := split4 cs i0 i1 i2 i3 a1 b1 b3 h3
      have g0 : cs.getD i0 ([], 0) = c0 := by rw [hcs, ← l0]; simp [List.getD_eq_getElem?_getD]
      have g1 : cs.getD i1 ([], 0) = c1 := by
        rw [hcs, ← l1, List.getD_eq_getElem?_getD, List.getElem?_append_right (by omega), show A.length + 1 + B.length - A.length = B.length + 1 by omega, List.getElem?_cons_succ, List.getElem?_append_right (Nat.le_refl _), Nat.sub_self]
        rfl
      have g2 : cs.getD i2 ([], 0) = c2 := by
        rw [hcs, ← l2, List.getD_eq_getElem?_getD, List.getElem?_append_right (by omega), show A.length + 1 + B.length + 1 + C.length - A.length = B.length + 1 + C.length + 1 by omega, List.getElem?_cons_succ, List.getElem?_append_right (by omega), show B.length + 1 + C.length - B.length = C.length + 1 by omega, List.getElem?_cons_succ, List.getElem?_append_right (by omega), Nat.sub_self]
        rfl
      have g3 : cs.getD i3 ([], 0) = c3 := by
        rw [hcs, ← l3, List.getD_eq_getElem?_getD, List.getElem?_append_right (by omega), show A.length + 1 + B.length + 1 + C.length + 1 + D.length - A.length = B.length + 1 + C.length + 1 + D.length + 1 by omega, List.getElem?_cons_succ, List.getElem?_append_right (by omega), show B.length + 1 + C.length + 1 + D.length - B.length = C.length + 1 + D.length + 1 by omega, List.getElem?_cons_succ, List.getElem?_append_right (by omega), show C.length + 1 + D.length - C.length = D.length + 1 by omega, List.getElem?_cons_succ, List.getElem?_append_right (by omega), Nat.sub_self]
        rfl
      have m1 : mergeC cs i0 i1 = A ++ (c0.1 ++ c1.1, c0.2 + c1.2) :: ((B ++ C) ++ c2 :: (D ++ c3 :: E)) := by
        rw [hcs, ← l0, ← l1, mergeC_at, List.append_assoc]
      have m2 : mergeC (mergeC cs i0 i1) i0 (i2 - 1) = A ++ (c0.1 ++ c1.1 ++ c2.1, c0.2 + c1.2 + c2.2) :: (((B ++ C) ++ D) ++ c3 :: E) := by
        rw [m1, ← l0, show i2 - 1 = A.length + 1 + (B ++ C).length by rw [List.length_append]; omega, mergeC_at, List.append_assoc (B ++ C)]
      have m3 : mergeC (mergeC (mergeC cs i0 i1) i0 (i2 - 1)) i0 (i3 - 2) = A ++ (c0.1 ++ c1.1 ++ c2.1 ++ c3.1, c0.2 + c1.2 + c2.2 + c3.2) :: (((B ++ C) ++ D) ++ E) := by
        rw [m2, ← l0, show i3 - 2 = A.length + 1 + ((B ++ C) ++ D).length by rw [List.length_append, List.length_append]; omega, mergeC_at]
      rw [← h, m3]
      have hall : allC cs [i0, i1, i2, i3] = c0.1 ++ c1.1 ++ c2.1 ++ c3.1 := by
        show (cs.getD i0 ([], 0)).1 ++ ((cs.getD i1 ([], 0)).1 ++ ((cs.getD i2 ([], 0)).1 ++ ((cs.getD i3 ([], 0)).1 ++ []))) = _
        rw [g0, g1, g2, g3, List.append_nil, List.append_assoc, List.append_assoc]
      rw [hall]
      generalize hX : sortI (c0.1 ++ c1.1 ++ c2.1 ++ c3.1) = X
      have hr : refC cs = refC A ++ sortI c0.1 :: (refC B ++ sortI c1.1 :: (refC C ++ sortI c2.1 :: (refC D ++ sortI c3.1 :: refC E))) := by rw [hcs]; simp [refC]
      have hcl : cs.length = i3 + 1 + E.length := by rw [hcs]; simp; omega
      have rl := refC_length
      obtain ⟨f, hf4⟩ : ∃ f, f = [i0, i1, i2, i3] := ⟨_, rfl⟩
      rw [← hf4]
      have hhd : f.head? = some i0 := by rw [hf4]; rfl
      have nf : ∀ k, k ≠ i0 → k ≠ i1 → k ≠ i2 → k ≠ i3 → k ∉ f := fun k e0 e1 e2 e3 => by rw [hf4]; simp [e0, e1, e2, e3]
      have yf : i0 ∈ f ∧ i1 ∈ f ∧ i2 ∈ f ∧ i3 ∈ f := by rw [hf4]; simp
      have s0 := nextP_far f X (refC cs) 0 i0 (fun k _ h2 => nf k (by omega) (by omega) (by omega) (by omega)) (by rw [rl]; omega)
      have s1 := nextP_far f X (refC cs) (i0 + 1) B.length (fun k _ h2 => nf k (by omega) (by omega) (by omega) (by omega)) (by rw [rl]; omega)
      have s2 := nextP_far f X (refC cs) (i1 + 1) C.length (fun k _ h2 => nf k (by omega) (by omega) (by omega) (by omega)) (by rw [rl]; omega)
      have s3 := nextP_far f X (refC cs) (i2 + 1) D.length (fun k _ h2 => nf k (by omega) (by omega) (by omega) (by omega)) (by rw [rl]; omega)
      have s4 := nextP_far f X (refC cs) (i3 + 1) E.length (fun k _ h2 => nf k (by omega) (by omega) (by omega) (by omega)) (by rw [rl]; omega)
      have t0 : nextP f X (refC cs) (i0 + 1) = nextP f X (refC cs) i0 ++ [X] := by
        show _ ++ (if _ then _ else _) ++ (if _ then _ else _) = _
        rw [hhd, if_pos rfl, if_pos yf.1, List.append_nil]
      have tn : ∀ k, k ≠ i0 → k ∈ f → nextP f X (refC cs) (k + 1) = nextP f X (refC cs) k := fun k hk hm => by
        show _ ++ (if _ then _ else _) ++ (if _ then _ else _) = _
        rw [hhd, if_neg (by simp [hk]), if_pos hm, List.append_nil, List.append_nil]
      have t1 := tn i1 (by omega) yf.2.1
      have t2 := tn i2 (by omega) yf.2.2.1
      have t3 := tn i3 (by omega) yf.2.2.2
      have v3 : nextP f X (refC cs) i3 = nextP f X (refC cs) i2 ++ ((refC cs).drop (i2 + 1)).take D.length := by
        rw [show i3 = i2 + 1 + D.length by omega, s3, t2]
      have v2 : nextP f X (refC cs) i2 = nextP f X (refC cs) i1 ++ ((refC cs).drop (i1 + 1)).take C.length := by
        rw [show i2 = i1 + 1 + C.length by omega, s2, t1]
      have v1 : nextP f X (refC cs) i1 = nextP f X (refC cs) i0 ++ [X] ++ ((refC cs).drop (i0 + 1)).take B.length := by
        rw [show i1 = i0 + 1 + B.length by omega, s1, t0]
      rw [Nat.zero_add] at s0
      rw [hcl, s4, t3, v3, v2, v1, s0]
      have d0 : ((refC cs).drop 0).take i0 = refC A := seg_at [] (refC A) _ hr rfl (by rw [rl, l0])
      have d1 : ((refC cs).drop (i0 + 1)).take B.length = refC B := seg_at (refC A ++ [sortI c0.1]) (refC B) (sortI c1.1 :: (refC C ++ sortI c2.1 :: (refC D ++ sortI c3.1 :: refC E))) (by rw [hr]; simp) (by simp [rl]; omega) (by rw [rl])
      have d2 : ((refC cs).drop (i1 + 1)).take C.length = refC C := seg_at (refC A ++ sortI c0.1 :: (refC B ++ [sortI c1.1])) (refC C) (sortI c2.1 :: (refC D ++ sortI c3.1 :: refC E)) (by rw [hr]; simp) (by simp [rl]; omega) (by rw [rl])
      have d3 : ((refC cs).drop (i2 + 1)).take D.length = refC D := seg_at (refC A ++ sortI c0.1 :: (refC B ++ sortI c1.1 :: (refC C ++ [sortI c2.1]))) (refC D) (sortI c3.1 :: refC E) (by rw [hr]; simp) (by simp [rl]; omega) (by rw [rl])
      have d4 : ((refC cs).drop (i3 + 1)).take E.length = refC E := seg_at (refC A ++ sortI c0.1 :: (refC B ++ sortI c1.1 :: (refC C ++ sortI c2.1 :: (refC D ++ [sortI c3.1])))) (refC E) [] (by rw [hr]; simp) (by simp [rl]; omega) (by rw [rl])
      rw [d0, d1, d2, d3, d4]
      simp only [List.append_assoc] at hX
      simp [refC, nextP, hX]
end Go.Proofs.Ytckempgpaojljaa.P
end
section
/- Examples: what is chosen of a few fixed lists. -/
namespace Go.Proofs.Ytckempgpaojljaa.P
set_option linter.unusedVariables false
set_option linter.unusedSimpArgs false
open Go.RowKit Go.Proofs.YtckempgpaojljaaW.PrintWords Go.Proofs.YtckempgpaojljaaW.PrintLast Go.Proofs.YtckempgpaojljaaW.PrintMore

theorem lv_1 : lv 1 = 0 := by rw [lv_pos 1 (by decide), lv_zero]; rfl
theorem lv_3 : lv 3 = 0 := by rw [lv_pos 3 (by decide), lv_zero]; rfl
theorem lv_4 : lv 4 = 1 := by rw [lv_pos 4 (by decide), lv_1]; rfl
theorem lv_16 : lv 16 = 2 := by rw [lv_pos 16 (by decide), lv_4]; rfl
theorem sortI_of {l : List Int} (h : l.Pairwise fun x y => decide (x ≤ y) = true) : sortI l = l := List.mergeSort_of_pairwise h

set_option maxRecDepth 100000 in
theorem start5 : startC [⟨1, 100⟩, ⟨1, 100⟩, ⟨1, 100⟩, ⟨1, 100⟩, ⟨1, 100⟩] = [([0], 1), ([1], 1), ([2], 1), ([3], 1), ([4], 1)] := by rfl
set_option maxRecDepth 100000 in
theorem step5 : stepC [([0], 1), ([1], 1), ([2], 1), ([3], 1), ([4], 1)] = some [([0, 1, 2, 3], 4), ([4], 1)] := by
  have h1 : cntC [([0], 1), ([1], 1), ([2], 1), ([3], 1), ([4], 1)] = [5, 0, 0, 0, 0, 0, 0, 0, 0, 0, 0, 0, 0, 0, 0, 0] := by
    simp [cntC, lv_1, List.range_succ]
  have h2 : posC [([0], 1), ([1], 1), ([2], 1), ([3], 1), ([4], 1)] 0 5 = [0, 1, 2, 3, 4] := by
    simp [posC, lv_1, List.range_succ]
  have h3 : idx4 [5, 0, 0, 0, 0, 0, 0, 0, 0, 0, 0, 0, 0, 0, 0, 0] = 0 := by rfl
  unfold stepC
  rw [h1, h3]
  rw [if_neg (by decide)]
  rw [show [([0], 1), ([1], 1), ([2], 1), ([3], 1), (([4] : List Int), (1 : Int))].length = 5 from rfl, h2]
  rfl
theorem step5b : stepC [([0, 1, 2, 3], 4), ([4], 1)] = none := by
  have h1 : cntC [([0, 1, 2, 3], 4), ([4], 1)] = [1, 1, 0, 0, 0, 0, 0, 0, 0, 0, 0, 0, 0, 0, 0, 0] := by
    simp [cntC, lv_1, lv_4, List.range_succ]
  unfold stepC
  rw [h1]
  rfl
theorem choose5 : choose [⟨1, 100⟩, ⟨1, 100⟩, ⟨1, 100⟩, ⟨1, 100⟩, ⟨1, 100⟩] = [[0, 1, 2, 3]] := by
  unfold choose
  rw [start5]
  show groupsC (iterC 5 _) = _
  rw [iterC, step5]
  show groupsC (iterC 4 _) = _
  rw [iterC, step5b]
  show [sortI [0, 1, 2, 3]] = _
  rw [sortI_of (by decide)]

theorem step4 : stepC [([0], 1), ([1], 1), ([2], 1), ([3], 1)] = some [([0, 1, 2, 3], 4)] := by
  have h1 : cntC [([0], 1), ([1], 1), ([2], 1), ([3], 1)] = [4, 0, 0, 0, 0, 0, 0, 0, 0, 0, 0, 0, 0, 0, 0, 0] := by
    simp [cntC, lv_1, List.range_succ]
  have h2 : posC [([0], 1), ([1], 1), ([2], 1), ([3], 1)] 0 4 = [0, 1, 2, 3] := by
    simp [posC, lv_1, List.range_succ]
  have h3 : idx4 [4, 0, 0, 0, 0, 0, 0, 0, 0, 0, 0, 0, 0, 0, 0, 0] = 0 := by rfl
  unfold stepC
  rw [h1, h3]
  rw [if_neg (by decide)]
  rw [show [([0], 1), ([1], 1), ([2], 1), (([3] : List Int), (1 : Int))].length = 4 from rfl, h2]
  rfl
theorem step4b : stepC [([0, 1, 2, 3], 4)] = none := by
  have h1 : cntC [([0, 1, 2, 3], 4)] = [0, 1, 0, 0, 0, 0, 0, 0, 0, 0, 0, 0, 0, 0, 0, 0] := by
    simp [cntC, lv_4, List.range_succ]
  unfold stepC
  rw [h1]
  rfl
theorem start4 : startC [⟨1, 100⟩, ⟨1, 100⟩, ⟨1, 100⟩, ⟨1, 100⟩] = [([0], 1), ([1], 1), ([2], 1), ([3], 1)] := by rfl
theorem choose4 : choose [⟨1, 100⟩, ⟨1, 100⟩, ⟨1, 100⟩, ⟨1, 100⟩] = [[0, 1, 2, 3]] := by
  unfold choose
  rw [start4]
  show groupsC (iterC 4 _) = _
  rw [iterC, step4]
  show groupsC (iterC 3 _) = _
  rw [iterC, step4b]
  show [sortI [0, 1, 2, 3]] = _
  rw [sortI_of (by decide)]

theorem start7 : startC [⟨4, 100⟩, ⟨4, 100⟩, ⟨4, 100⟩, ⟨1, 100⟩, ⟨1, 100⟩, ⟨1, 100⟩, ⟨1, 100⟩] = [([0], 4), ([1], 4), ([2], 4), ([3], 1), ([4], 1), ([5], 1), ([6], 1)] := by rfl
set_option maxRecDepth 100000 in
theorem step7 : stepC [([0], 4), ([1], 4), ([2], 4), ([3], 1), ([4], 1), ([5], 1), ([6], 1)] = some [([0], 4), ([1], 4), ([2], 4), ([3, 4, 5, 6], 4)] := by
  have h1 : cntC [([0], 4), ([1], 4), ([2], 4), ([3], 1), ([4], 1), ([5], 1), ([6], 1)] = [4, 3, 0, 0, 0, 0, 0, 0, 0, 0, 0, 0, 0, 0, 0, 0] := by
    simp [cntC, lv_1, lv_4, List.range_succ]
  have h2 : posC [([0], 4), ([1], 4), ([2], 4), ([3], 1), ([4], 1), ([5], 1), ([6], 1)] 0 7 = [3, 4, 5, 6] := by
    simp [posC, lv_1, lv_4, List.range_succ]
  have h3 : idx4 [4, 3, 0, 0, 0, 0, 0, 0, 0, 0, 0, 0, 0, 0, 0, 0] = 0 := by rfl
  unfold stepC
  rw [h1, h3]
  rw [if_neg (by decide)]
  rw [show [([0], 4), ([1], 4), ([2], 4), ([3], 1), ([4], 1), ([5], 1), (([6] : List Int), (1 : Int))].length = 7 from rfl, h2]
  rfl
theorem step7b : stepC [([0], 4), ([1], 4), ([2], 4), ([3, 4, 5, 6], 4)] = some [([0, 1, 2, 3, 4, 5, 6], 16)] := by
  have h1 : cntC [([0], 4), ([1], 4), ([2], 4), ([3, 4, 5, 6], 4)] = [0, 4, 0, 0, 0, 0, 0, 0, 0, 0, 0, 0, 0, 0, 0, 0] := by
    simp [cntC, lv_4, List.range_succ]
  have h2 : posC [([0], 4), ([1], 4), ([2], 4), ([3, 4, 5, 6], 4)] 1 4 = [0, 1, 2, 3] := by
    simp [posC, lv_4, List.range_succ]
  have h3 : idx4 [0, 4, 0, 0, 0, 0, 0, 0, 0, 0, 0, 0, 0, 0, 0, 0] = 1 := by rfl
  unfold stepC
  rw [h1, h3]
  rw [if_neg (by decide)]
  rw [show [([0], 4), ([1], 4), ([2], 4), (([3, 4, 5, 6] : List Int), (4 : Int))].length = 4 from rfl, h2]
  rfl
theorem step7c : stepC [([0, 1, 2, 3, 4, 5, 6], 16)] = none := by
  have h1 : cntC [([0, 1, 2, 3, 4, 5, 6], 16)] = [0, 0, 1, 0, 0, 0, 0, 0, 0, 0, 0, 0, 0, 0, 0, 0] := by
    simp [cntC, lv_16, List.range_succ]
  unfold stepC
  rw [h1]
  rfl
theorem choose7 : choose [⟨4, 100⟩, ⟨4, 100⟩, ⟨4, 100⟩, ⟨1, 100⟩, ⟨1, 100⟩, ⟨1, 100⟩, ⟨1, 100⟩] = [[0, 1, 2, 3, 4, 5, 6]] := by
  unfold choose
  rw [start7]
  show groupsC (iterC 7 _) = _
  rw [iterC, step7]
  show groupsC (iterC 6 _) = _
  rw [iterC, step7b]
  show groupsC (iterC 5 _) = _
  rw [iterC, step7c]
  show [sortI [0, 1, 2, 3, 4, 5, 6]] = _
  rw [sortI_of (by decide)]

theorem units_ev (l : List Int) (h : l.length ≤ 1000000) : Evt (fun k => chapmanlaw36_units.f k l) (l.map fun x => ⟨x, 100⟩) := by
  refine Evt.loop (fun i k => chapmanlaw36_units.l0 k l ((l.take i).map fun x => ⟨x, 100⟩) (i : Int)) l.length ?_ (fun i hi k => ?_)
  · refine (Evt.pure _).step (fun k => ?_)
    show (if _ then _ else _) = _
    rw [if_neg (by omega), List.take_length]
  · show (if _ then _ else _) = _
    rw [if_pos (by omega), if_pos (by omega), if_pos (by rw [List.length_map, List.length_take]; omega), w64s (by omega), rdI hi, map_take_succ _ _ hi]

/-- The results of the law's wrappers. -/
def chosenL (l : List S43) : List (List Int) × List S43 × Int × Int := if validL (pcs l) then (choose (pcs l), [], 0, 0) else ([], [], 0, 1)
def readL (l : List S43) : List (List Int) × List S43 × Int × Int := if validL (pcs l) then ([], [], readN (pcs l), 0) else ([], [], 0, 1)
def mergeL (l : List S43) (g : List Int) : List (List Int) × List S43 × Int × Int := if validL (pcs l) && okG l.length g then ([], [], mergeN (pcs l) g, 0) else ([], [], 0, 1)
def worthR (l : List S43) (a : Int) : List (List Int) × List S43 × Int × Int := if validL (pcs l) && (decide (0 ≤ a) && decide (a ≤ 1000000000)) then (worthL (pcs l) a, [], 0, 0) else ([], [], 0, 1)
def afterR (l : List S43) (G : List (List Int)) : List (List Int) × List S43 × Int × Int := match (if validL (pcs l) then afterL (pcs l) G else none) with | some out => ([], unp out, 0, 0) | none => ([], [], 0, 1)

theorem chosen_ev (l : List S43) (h : l.length ≤ 1000000) : Evt (fun k => chapmanlaw36_chosen.f k l) (chosenL l) := by
  refine (pieces_ev l h).bind (h := fun k t110 => ((cost_Choose.f t110).bind fun bt113 => (some (bt113.1, ([] : List (S43)), 0, bt113.2)))) ?_
  refine Evt.of (fun k => ?_)
  unfold chosenL cost_Choose.f
  split <;> rfl
theorem read_ev (l : List S43) (h : l.length ≤ 1000000) : Evt (fun k => chapmanlaw36_read.f k l) (readL l) := by
  refine (pieces_ev l h).bind (h := fun k t118 => ((cost_Read.f t118).bind fun bt121 => (some (([] : List (List Int)), ([] : List (S43)), bt121.1, bt121.2)))) ?_
  refine Evt.of (fun k => ?_)
  unfold readL cost_Read.f
  split <;> rfl
theorem merge_ev (l : List S43) (g : List Int) (h : l.length ≤ 1000000) : Evt (fun k => chapmanlaw36_merge.f k l g) (mergeL l g) := by
  refine (pieces_ev l h).bind (h := fun k t138 => ((cost_Merge.f t138 g).bind fun bt141 => (some (([] : List (List Int)), ([] : List (S43)), bt141.1, bt141.2)))) ?_
  refine Evt.of (fun k => ?_)
  unfold mergeL cost_Merge.f
  rw [pcs_length]
  split <;> rfl
theorem worth_ev (l : List S43) (a : Int) (h : l.length ≤ 1000000) : Evt (fun k => chapmanlaw36_worth.f k l a) (worthR l a) := by
  refine (pieces_ev l h).bind (h := fun k t144 => ((cost_Worth.f t144 a).bind fun bt147 => (some (bt147.1, ([] : List (S43)), 0, bt147.2)))) ?_
  refine Evt.of (fun k => ?_)
  unfold worthR cost_Worth.f
  split <;> rfl
theorem after_loop (m : List S59) (e : Int) (h : m.length ≤ 1000000) : Evt (fun k => chapmanlaw36_after.l0 k m 0 [] 0 e) ([], unp m, 0, e) := by
  refine Evt.loop (fun i k => chapmanlaw36_after.l0 k m (i : Int) ((m.take i).map fun p => ⟨p.f0, p.f1⟩) 0 e) m.length ?_ (fun i hi k => ?_)
  · refine (Evt.pure _).step (fun k => ?_)
    show (if _ then _ else _) = _
    rw [if_neg (by omega), List.take_length]
    rfl
  · show (if _ then _ else _) = _
    rw [if_pos (by omega), if_pos (by omega), if_pos (by rw [List.length_map, List.length_take]; omega), w64s (by omega), rd59 hi, map_take_succ _ _ hi]
theorem afterL_len {l : List S59} {G : List (List Int)} {out : List S59} (h : afterL l G = some out) : out.length ≤ l.length := by
  unfold afterL at h
  obtain ⟨ow, _, rfl⟩ := Option.map_eq_some_iff.1 h
  exact aftK_len l ow l.length
theorem after_ev (l : List S43) (G : List (List Int)) (h : l.length ≤ 1000000) : Evt (fun k => chapmanlaw36_after.f k l G) (afterR l G) := by
  refine (pieces_ev l h).bind (h := fun k t124 => ((cost_After.f t124 G).bind fun bt127 => (chapmanlaw36_after.l0 k bt127.1 0 ([] : List (S43)) 0 bt127.2))) ?_
  unfold afterR cost_After.f
  cases hx : (if validL (pcs l) = true then afterL (pcs l) G else none) with
  | none => exact after_loop [] 1 (by simp)
  | some out =>
    have : out.length ≤ 1000000 := by
      split at hx
      · have := afterL_len hx
        rw [pcs_length] at this
        omega
      · cases hx
    exact after_loop out 0 this
end Go.Proofs.Ytckempgpaojljaa.P
end
section
/- The contract of chapmanref36.clusters. -/
namespace Go.Proofs.Ytckempgpaojljaa.P
set_option linter.unusedVariables false
set_option linter.unusedSimpArgs false
open Go.RowKit Go.Proofs.YtckempgpaojljaaW.PrintWords Go.Proofs.YtckempgpaojljaaW.PrintLast Go.Proofs.YtckempgpaojljaaW.PrintMore

theorem InvC.merge {l : List S43} {cs : List (List Int × Int)} (h : InvC l cs) (i j : Nat) (hi : i < cs.length) (hj : j < cs.length) : InvC l (mergeC cs i j) := by
  have hm : ∀ c ∈ mergeC cs i j, c ∈ cs ∨ c = ((cs.getD i ([], 0)).1 ++ (cs.getD j ([], 0)).1, (cs.getD i ([], 0)).2 + (cs.getD j ([], 0)).2) := fun c hc => List.mem_or_eq_of_mem_set (List.mem_of_mem_eraseIdx hc)
  refine ⟨fun c hc => ?_, fun c hc k hk => ?_⟩
  · rcases hm c hc with e | e
    · exact h.sum c e
    · rw [e]
      show _ + _ = sumG _ (_ ++ _)
      rw [sumG_append, h.sum _ (getD_mem cs i _ hi), h.sum _ (getD_mem cs j _ hj)]
  · rcases hm c hc with e | e
    · exact h.idx c e k hk
    · rw [e] at hk
      rcases List.mem_append.1 hk with hk | hk
      · exact h.idx _ (getD_mem cs i _ hi) k hk
      · exact h.idx _ (getD_mem cs j _ hj) k hk
theorem InvC.step {l : List S43} {cs cs' : List (List Int × Int)} (h : InvC l cs) (hs : stepC cs = some cs') : InvC l cs' := by
  obtain ⟨i0, i1, i2, i3, hf, h0, h1, h2, h3, _⟩ := step_ref cs cs' hs
  unfold stepC at hs
  split at hs
  · exact absurd hs (by simp)
  · rename_i hn
    have hf2 : fourC cs = (posC cs (idx4 (cntC cs)) cs.length).take 4 := by unfold fourC; rw [if_neg hn]
    rw [← hf2, hf] at hs
    injection hs with hs
    rw [← hs]
    have l1 := mergeC_length cs i0 i1 (by omega)
    have k1 := h.merge i0 i1 (by omega) (by omega)
    have l2 := mergeC_length (mergeC cs i0 i1) i0 (i2 - 1) (by omega)
    have k2 := k1.merge i0 (i2 - 1) (by omega) (by omega)
    exact k2.merge i0 (i3 - 2) (by omega) (by omega)
theorem step_none {cs : List (List Int × Int)} (hs : stepC cs = none) : fourC cs = [] := by
  unfold stepC at hs
  unfold fourC
  split at hs
  · rename_i hn
    rw [if_pos hn]
  · rename_i hn
    exfalso
    have hcl : (cntC cs).length = 16 := by simp [cntC]
    rcases idx4_spec (cntC cs) with h | ⟨j, e, hj, h4⟩
    · rw [h] at hn
      exact hn (by decide)
    · have hc := posC_count cs j (by omega)
      rw [e] at hs
      have hl : ((posC cs (j : Int) cs.length).take 4).length = 4 := by rw [List.length_take]; omega
      generalize (posC cs (j : Int) cs.length).take 4 = P at hs hl
      match P, hl, hs with
      | [a, b, c, d], _, hs => exact absurd hs (by simp)
theorem InvC.start (l : List S43) : InvC l (startC (pcs l)) := by
  refine ⟨fun c hc => ?_, fun c hc k hk => ?_⟩
  · obtain ⟨q, hq, rfl⟩ := List.mem_map.1 hc
    obtain ⟨p, i⟩ := q
    rw [List.mem_zipIdx_iff_getElem?] at hq
    simp only [pcs, List.getElem?_map, Option.map_eq_some_iff] at hq
    obtain ⟨x, hx, e⟩ := hq
    subst e
    simp [sumG, rd_T43, List.getD_eq_getElem?_getD, hx]
  · obtain ⟨q, hq, rfl⟩ := List.mem_map.1 hc
    obtain ⟨p, i⟩ := q
    rw [List.mem_zipIdx_iff_getElem?] at hq
    simp only [pcs, List.getElem?_map, Option.map_eq_some_iff] at hq
    obtain ⟨x, hx, _⟩ := hq
    have := (List.getElem?_eq_some_iff.1 hx).1
    simp at hk
    subst hk
    simp
    omega
theorem sortI_one (x : Int) : sortI [x] = [x] := by simp [sortI]
theorem sortI_nil : sortI [] = [] := by simp [sortI]
theorem refC_start (l : List S43) : refC (startC (pcs l)) = (List.range l.length).map fun (i : Nat) => [(i : Int)] := by
  apply List.ext_getElem
  · simp [refC, startC, pcs]
  · intro i h1 h2
    simp [refC, startC, sortI_one]
theorem allC_append (cs : List (List Int × Int)) (a b : List Nat) : allC cs (a ++ b) = allC cs a ++ allC cs b := by
  induction a with
  | nil => rfl
  | cons x a ih => simp [allC, ih]
theorem allC_succ (cs : List (List Int × Int)) (f : List Nat) (k i : Nat) (h : f[k]? = some i) : allC cs (f.take (k + 1)) = allC cs (f.take k) ++ (cs.getD i ([], 0)).1 := by
  rw [List.take_add_one, h, allC_append]
  simp [allC]

/-- What holds while the next clusters are made. -/
structure NI (w : World) (f : List Nat) (x : List Int) (G : List (List Int)) (vo vf va vn : Value) (i : Nat) (W : World) : Prop where
  rO : RR W w.heap.size (fun k => True ∧ some k ≠ vn.ownBlock) vo G
  rF : Kd.R (Kd.int .i64) 3 W w.heap.size (fun _ => True) vf (natI f)
  rA : Kd.R (Kd.int .i64) 3 W w.heap.size (fun _ => True) va x
  rN : RR W w.heap.size (fun _ => True) vn (nextP f x G i)
  below : Below w.heap.size w W

theorem NI.app {w : World} {f : List Nat} {x : List Int} {G : List (List Int)} {vo vf va vn : Value} {i j : Nat} {W W' : World} {v1 : Value} (h : NI w f x G vo vf va vn i W) (hr : RR W' w.heap.size (fun _ => True) v1 (nextP f x G j)) (hb : Below w.heap.size w W') (hg : W.grownBy W' vn.ownBlock) (hat : v1.ownBlock = vn.ownBlock ∨ ∃ b, v1.ownBlock = some b ∧ W.heap.size ≤ b) : NI w f x G vo vf va v1 j W' := by
  have h26 : ∀ q, q ∈ 3 :: (Kd.int .i64).E → q ≠ 26 := by
    intro q hq
    have : q = 3 := by simpa [Kd.int, Kd.scalar] using hq
    omega
  exact ⟨Kd.R_after h.rO hg hat, Kd.R_over' h.rF (Kd.R_typed h.rN) h26 hg, Kd.R_over' h.rA (Kd.R_typed h.rN) h26 hg, hr, hb⟩
theorem NI.moves {w : World} {f : List Nat} {x : List Int} {G : List (List Int)} {vo vf va vn : Value} {i : Nat} {W W' : World} (h : NI w f x G vo vf va vn i W) (hb : Below W.heap.size W W') : NI w f x G vo vf va vn i W' :=
  ⟨Kd.R_below h.rO hb, Kd.R_below h.rF hb, Kd.R_below h.rA hb, Kd.R_below h.rN hb, h.below.trans (hb.mono h.below.size)⟩

theorem typed3 {W : World} {base : Nat} {ok : Nat → Prop} {v : Value} {xs : List Int} (h : Kd.R (Kd.int .i64) 3 W base ok v xs) : Kd.R (Kd.int .i64) 3 W base (fun k => ∃ cells, W.heap[k]? = some (.cells cells 3 (0, 0))) v xs :=
  Kd.R_mono (Kd.R_bound h) (fun k hk => by
    obtain ⟨_, _, _, q, hq, hc⟩ := hk
    have : q = 3 := by simpa [Kd.int, Kd.scalar] using hq
    rw [this] at hc
    exact hc)
theorem apart26 {W : World} {base : Nat} {ok : Nat → Prop} {v : Value} {xs : List (List Int)} (h : RR W base ok v xs) (k : Nat) (hk : ∃ cells, W.heap[k]? = some (.cells cells 3 (0, 0))) : True ∧ some k ≠ v.ownBlock :=
  ⟨trivial, fun e => by
    obtain ⟨c1, h1⟩ := hk
    obtain ⟨c2, h2⟩ := Kd.R_typed h k e.symm
    rw [h1] at h2
    injection h2 with h2
    injection h2 with _ h3
    exact absurd h3 (by decide)⟩
theorem nextP_len {α : Type} (f : List Nat) (x : α) (G : List α) (k : Nat) : (nextP f x G k).length ≤ 2 * k := by
  induction k with
  | zero => simp [nextP]
  | succ k ih =>
    show ((_ ++ (if _ then _ else _) ++ (if _ then _ else _)) : List α).length ≤ _
    rw [List.length_append, List.length_append]
    have h1 : (if some k = f.head? then [x] else []).length ≤ 1 := by split <;> simp
    have h2 : (if k ∈ f then [] else (G[k]?).toList).length ≤ 1 := by
      split
      · simp
      · cases G[k]? <;> simp
    omega

theorem natI_length (f : List Nat) : (natI f).length = f.length := by simp [natI]
theorem natI_get {f : List Nat} {k i : Nat} (h : f[k]? = some i) : rd (natI f) (k : Int) = (i : Int) := by simp [rd, natI, List.getD_eq_getElem?_getD, h]

theorem NI.start {w : World} {f : List Nat} {G : List (List Int)} {vo vf : Value} {W : World} (hb : Below w.heap.size w W) (hO : RR W w.heap.size (fun _ => True) vo G) (hF : Kd.R (Kd.int .i64) 3 W w.heap.size (fun _ => True) vf (natI f)) :
    NI w f [] G vo vf (.slice (some ⟨W.heap.size + 1, 0, none⟩) 0 0) (.slice (some ⟨W.heap.size, 0, none⟩) 0 0) 0 ((W.alloc (.cells #[] 26)).alloc (.cells #[] 3)) := by
  have hs := alloc_size W (.cells #[] 26)
  refine ⟨Kd.R_alloc (Kd.R_alloc (Kd.R_mono (Kd.R_bound hO) (fun k hk => ⟨trivial, fun e => ?_⟩)) _) _, Kd.R_alloc (Kd.R_alloc hF _) _, ?_, Kd.R_alloc (R_zero _ _ _ _ _ hb.size trivial) _, below_alloc (below_alloc hb _) _⟩
  · have := R_zero (Kd.int .i64) 3 (W.alloc (.cells #[] 26)) w.heap.size (fun _ => True) (by rw [hs]; have := hb.size; omega) trivial
    rw [hs] at this
    exact this
  · have h2 : k = W.heap.size := by simpa [Value.ownBlock] using e
    have := hk.2.2.1
    omega

theorem drawn_below {W W' : World} (h : Drawn0 W W') : Below W.heap.size W W' := by
  obtain ⟨m, rfl⟩ := h
  exact pw_below_drewN (Below.refl _ _) m
theorem addr_zero (ad : Addr) : ad.add 0 = ad := by cases ad; rfl
theorem nextP_hit {α : Type} {f : List Nat} {x : α} {G : List α} {i : Nat} (h : f.head? = some i) : nextP f x G (i + 1) = nextP f x G i ++ [x] := by
  show _ ++ (if _ then _ else _) ++ (if _ then _ else _) = _
  rw [h, if_pos rfl, if_pos (List.mem_of_mem_head? h), List.append_nil]
theorem nextP_skip {α : Type} {f : List Nat} {x : α} {G : List α} {i i0 : Nat} (h : f.head? = some i0) (hi : ¬ i = i0) (hm : i ∈ f) : nextP f x G (i + 1) = nextP f x G i := by
  show _ ++ (if _ then _ else _) ++ (if _ then _ else _) = _
  rw [h, if_neg (by simpa using hi), if_pos hm, List.append_nil, List.append_nil]
theorem nextP_keep {α : Type} {f : List Nat} {x : α} {G : List α} {i i0 : Nat} {y : α} (h : f.head? = some i0) (hm : ¬ i ∈ f) (hy : G[i]? = some y) : nextP f x G (i + 1) = nextP f x G i ++ [y] := by
  show _ ++ (if _ then _ else _) ++ (if _ then _ else _) = _
  rw [h, if_neg (fun e => hm (List.mem_of_mem_head? (by rw [h]; exact e.symm))), if_neg hm, List.append_nil, hy]
  rfl
theorem mem_natI {f : List Nat} {i : Nat} : ((i : Int) ∈ natI f) = (i ∈ f) := propext ⟨fun h => by
  obtain ⟨a, ha, e⟩ := List.mem_map.1 h
  have : a = i := by omega
  exact this ▸ ha, fun h => List.mem_map.2 ⟨i, h, rfl⟩⟩

theorem OkC.len1 {cs : List (List Int × Int)} (h : OkC cs) (i : Nat) (hi : i < cs.length) : (cs.getD i ([], 0)).1.length ≤ 1000 := by
  have h2 := sum_ge (cs.map fun c => (c.1.length : Int)) (by
    intro z hz
    obtain ⟨c, hc, rfl⟩ := List.mem_map.1 hz
    omega) i (by simpa using hi)
  have e : (cs.map fun c => (c.1.length : Int)).getD i 0 = ((cs.getD i ([], 0)).1.length : Int) := by simp [List.getD_eq_getElem?_getD, hi]
  have := h.sumL
  omega
theorem allC_len {cs : List (List Int × Int)} (h : OkC cs) (f : List Nat) (hf : ∀ i ∈ f, i < cs.length) : (allC cs f).length ≤ 1000 * f.length := by
  induction f with
  | nil => simp [allC]
  | cons x f ih =>
    have h1 := h.len1 x (hf x (by simp))
    have h2 := ih (fun i hi => hf i (by simp [hi]))
    simp only [allC, List.length_append, List.length_cons]
    omega

theorem fresh_not {v : Value} {n : Nat} (hl : ∀ k, v.ownBlock = some k → k < n) (b : Nat) (hb : (Value.slice (some ⟨n, 0, none⟩) 1 1).ownBlock = some b) : True ∧ some b ≠ v.ownBlock :=
  ⟨trivial, fun e => by
    have h1 := hl b e.symm
    have h2 : n = b := by simpa [Value.ownBlock] using hb
    omega⟩

/-- What holds when some steps are done. -/
structure CI (w : World) (l : List S43) (fin : List (List Int × Int)) (n : Nat) (v : Value) (W : World) : Prop where
  ex : ∃ cs, RR W w.heap.size (fun _ => True) v (refC cs) ∧ InvC l cs ∧ OkC cs ∧ iterC n cs = fin ∧ cs.length ≤ n
  below : Below w.heap.size w W

/-- What clusters answers. -/
def ClPost (w : World) (r : List (List Int)) (e : Ending) (w' : World) : Prop := ∃ v, e = .returned v ∧ RR w' w.heap.size (fun _ => True) v r ∧ Below w.heap.size w w'

set_option maxRecDepth 100000 in
set_option maxHeartbeats 4000000 in
theorem clus34 (A : Option Addr) (c : Nat) (l : List S43) (w : World) (hr : Kd.C k43 w A l.length l) (hc : l.length ≤ c) (hv : validL (pcs l) = true) :
    Calls Try.prog 34 #[.slice A l.length c] w (ClPost w (refC (iterC l.length (startC (pcs l))))) := by
  obtain ⟨hl5, hm⟩ := valid_mem hv
  rw [pcs_length] at hl5
  have hb : ∀ p ∈ l, 0 ≤ p.f0 ∧ p.f0 ≤ 1000000000000 ∧ 0 ≤ p.f1 ∧ p.f1 ≤ 1000000000000 := fun p hp => by
    have := hm ⟨p.f0, p.f1⟩ (List.mem_map.2 ⟨p, hp, rfl⟩)
    simp only at this
    omega
  have HBD := Aside0.mk hb
  have HR := Aside0.mk hr
  have HV := Aside0.mk hv
  clear hr hv hm hb
  go_enter Try.func34, Try.ntmps34
  go_wp2
  go_loopw [4, 3] (fun v4 v3 w' => ∃ k : Nat, k ≤ l.length ∧ v4 = .int .i64 k ∧ Aside0 (Below w.heap.size w w') ∧ Aside0 (RR w' w.heap.size (fun _ => True) v3 ((List.range k).map fun (i : Nat) => [(i : Int)]))) (fun v4 _ _ => l.length - (intOf v4).toNat)
  case atStart => exact ⟨0, by omega, rfl, ⟨below_alloc (Below.refl _ _) _⟩, ⟨R_zero _ _ _ _ _ (Nat.le_refl _) trivial⟩⟩
  case round =>
    obtain ⟨k, hk, rfl, HB, HV3⟩ := hrel
    by_cases hlt : k < l.length
    · have hal := alloc_size wr (.cells #[.int .i64 (k : Int)] 3)
      have HV4 := Aside0.mk (Kd.R_alloc HV3.out (.cells #[.int .i64 (k : Int)] 3))
      have HB4 := Aside0.mk (below_alloc HB.out (.cells #[.int .i64 (k : Int)] 3))
      have HONE := Aside0.mk (R_one wr w.heap.size (k : Int) HB.out.size)
      have HLT := Aside0.mk (Kd.R_lt HV3.out)
      go_wp2_with (at_builtin; refine Kd.R_append (Kd.slice 3 (Kd.int .i64)) (w0 := w) w.heap.size rfl (.tmp 17) (.tmp 20) 24 26 (.slice none 0 0) 24 rfl Try.underlying24 info26 rfl (by decide) (by decide) _ ((List.range k).map fun (i : Nat) => [(i : Int)]) [(k : Int)] [.slice (some ⟨wr.heap.size, 0, none⟩) 1 1] (fun _ => True) (fun b => (Value.slice (some ⟨wr.heap.size, 0, none⟩) 1 1).ownBlock = some b) rfl (by rw [hal]; rfl) ?aP ?aK ?aF ?aO ?aB ?aS ?aL ?_; (case aP => exact ⟨_, rfl, HONE.out⟩); (case aK => exact fun b hb => fresh_not HLT.out b hb); (case aF => exact fun _ _ => trivial); (case aO => exact HV4.out); (case aB => exact HB4.out); (case aS => rw [hal]; have := HB.out.size; omega); (case aL => rw [List.length_map, List.length_range]; omega); intro v1 w5 ho hb hg5 hat; have HO5 := Aside0.mk ho; have HB5 := Aside0.mk hb; clear ho hb hg5 hat)
      have HN : Aside0 (RR w5 w.heap.size (fun _ => True) v1 ((List.range (k + 1)).map fun (i : Nat) => [(i : Int)])) := ⟨by rw [List.range_succ, List.map_append]; exact HO5.out⟩
      go_roundw
      case rel => exact ⟨k + 1, by omega, by go_num, HB5, HN⟩
      case measure => simp [intOf]; omega
    · obtain rfl : k = l.length := by omega
      have h0 : CI w l (iterC l.length (startC (pcs l))) l.length u3 wr := by
        refine ⟨⟨startC (pcs l), ?_, InvC.start l, startC_ok HV.out, rfl, by simp [startC, pcs]⟩, HB.out⟩
        rw [refC_start]
        exact HV3.out
      have H0 := Aside0.mk h0
      clear h0
      go_wp2
      go_loopg [3] l.length (fun gk v3 w' => Aside0 (CI w l (iterC l.length (startC (pcs l))) gk v3 w'))
      case atStart => exact H0
      case round =>
        clear H0 HB HV3
        have H := hrel
        clear hrel
        obtain ⟨cs, hRR, hinv, hokc, hit, hle⟩ := H.out.ex
        have HRR := Aside0.mk hRR
        have HINV := Aside0.mk hinv
        have HOKC := Aside0.mk hokc
        have HIT := Aside0.mk hit
        have HLE := Aside0.mk hle
        have hcn := hokc.num
        obtain ⟨AO, cO, eO, hcO, hCO⟩ := Kd.R_reads hRR
        obtain ⟨kf, hkf⟩ : ∃ k, chapmanref36_four.f k l (refC cs) = some (natI (fourC cs)) := by
          obtain ⟨K, hK⟩ := four_ev l cs hinv hokc HBD.out
          exact ⟨K, hK K (Nat.le_refl _)⟩
        have hcon := chapmanref36_four.calls kf A c l AO cO (refC cs) (natI (fourC cs)) wr (Kd.C_below HR.out H.out.below) hc hCO hcO hkf
        have HEO := Aside0.mk eO
        rw [← eO] at hcon
        have HCON := Aside0.mk hcon
        clear hRR hinv hokc hit hle eO hCO hkf hcon hcO
        go_wp2_with (fail)
        refine HCON.out.mono ?_
        rintro e w2 ⟨vf, rfl, hF, hb⟩
        have HB2 := Aside0.mk (H.out.below.trans (hb.mono H.out.below.size))
        have HF2 := Aside0.mk (Kd.R_lower hF H.out.below.size)
        have HRR2 := Aside0.mk (Kd.R_below HRR.out hb)
        clear hF hb
        cases hs : stepC cs with
        | none =>
          have HS := Aside0.mk hs
          have hf0 := step_none hs
          rw [hf0] at HF2
          obtain ⟨AF, cF, rfl, _⟩ := Kd.R_reads HF2.out
          have hfin : cs = iterC l.length (startC (pcs l)) := by
            rw [← HIT.out]
            cases gk with
            | zero => rfl
            | succ k => simp [iterC, hs]
          have HFIN := Aside0.mk hfin
          clear hs hf0 hfin
          go_wp2
          go_ret
          exact ⟨_, rfl, by rw [← HFIN.out]; exact HRR2.out, HB2.out⟩
        | some cs' =>
          obtain ⟨i0, i1, i2, i3, hf4, q0, q1, q2, q3, hnext⟩ := step_ref cs cs' hs
          obtain ⟨hok', hlen'⟩ := stepC_ok HOKC.out hs
          obtain ⟨gk, rfl⟩ : ∃ m, gk = m + 1 := ⟨gk - 1, by have := HLE.out; omega⟩
          have hit' : iterC gk cs' = iterC l.length (startC (pcs l)) := by
            rw [← HIT.out]
            simp [iterC, hs]
          have HIT' := Aside0.mk hit'
          have HOK' := Aside0.mk hok'
          have HINV' := Aside0.mk (HINV.out.step hs)
          have HLE' : Aside0 (cs'.length ≤ gk) := ⟨by have := HLE.out; omega⟩
          have hfl : (fourC cs).length = 4 := by rw [hf4]; rfl
          have hf0 : (fourC cs)[0]? = some i0 := by rw [hf4]; rfl
          have hfh : (fourC cs).head? = some i0 := by rw [hf4]; rfl
          have hfm : ∀ i ∈ fourC cs, i < cs.length := by
            rw [hf4]
            intro i hi
            simp only [List.mem_cons, List.not_mem_nil, or_false] at hi
            omega
          have HF0 := Aside0.mk hf0
          have HFH := Aside0.mk hfh
          have HFM := Aside0.mk hfm
          have HNX := Aside0.mk hnext
          clear hit' hok' hs hf4 hnext hf0 hfh hfm hlen'
          generalize fourC cs = f at *
          have eO := HEO.out
          subst eO
          obtain ⟨AF, cF, eF, hcF, hcF2⟩ := Kd.R_reads HF2.out
          clear hcF2
          rw [natI_length, hfl] at eF
          subst eF
          have hrl := refC_length cs
          have HNI := Aside0.mk (NI.start HB2.out HRR2.out HF2.out)
          have hal := alloc_size w2 (.cells #[] 26)
          rw [hrl] at HNI
          have hxs : sortI (allC cs (f.take 0)) = [] := by rw [List.take_zero]; exact sortI_nil
          rw [← hxs] at HNI
          clear HCON HRR HRR2 HF2 H hcF hxs
          go_wp2
          go_loopw [8, 7] (fun v8 v7 w' => ∃ k : Nat, k ≤ 4 ∧ v8 = .int .i64 k ∧ Aside0 (NI w f (sortI (allC cs (f.take k))) (refC cs) (.slice AO cs.length cO) (.slice AF 4 cF) v7 (.slice (some ⟨w2.heap.size, 0, none⟩) 0 0) 0 w')) (fun v8 _ _ => 4 - (intOf v8).toNat)
          case atStart => exact ⟨0, by omega, rfl, HNI⟩
          case round =>
            clear HNI hal
            obtain ⟨k, hk4, rfl, HN⟩ := hrel
            by_cases hlt2 : k < 4
            · obtain ⟨ik, hik⟩ : ∃ i, f[k]? = some i := ⟨_, List.getElem?_eq_getElem (by omega)⟩
              have hikn := HFM.out ik (List.mem_of_getElem? hik)
              obtain ⟨nF, _, hCF⟩ := Kd.R_reads' HN.out.rF
              obtain ⟨ad, rfl, hx0⟩ := Kd.at_int hCF (k : Int) (by omega) (by rw [← nF]; omega)
              rw [natI_get hik, Int.toNat_natCast] at hx0
              obtain ⟨nO, _, hCO⟩ := Kd.R_reads' HN.out.rO
              obtain ⟨ad2, A0, c0, rfl, hx1, hgc, hgC⟩ := rr_read hCO ik (by rw [hrl]; exact hikn) (x := sortI (cs.getD ik ([], 0)).1) (by rw [← refC_get hikn]; exact List.getElem?_eq_getElem _)
              obtain ⟨Aa, ca, ea, hac, haC⟩ := Kd.R_reads HN.out.rA
              subst ea
              have hall := allC_succ cs f k ik hik
              have HALL := Aside0.mk hall
              have hlen1 : (sortI (allC cs (f.take k))).length ≤ 1000000 := by
                rw [sortI_length]
                have h1 := allC_len HOKC.out (f.take k) (fun j hj => HFM.out j (List.mem_of_mem_take hj))
                have h2 : (f.take k).length ≤ 4 := by rw [List.length_take]; omega
                omega
              have hlen2 : (sortI (cs.getD ik ([], 0)).1).length ≤ 1000000 := by
                rw [sortI_length]
                have := HOKC.out.len1 ik hikn
                omega
              obtain ⟨km, hkm⟩ : ∃ q, chapmanref36_merged.f q (sortI (allC cs (f.take k))) (sortI (cs.getD ik ([], 0)).1) = some (sortI (allC cs (f.take (k + 1)))) := by
                obtain ⟨K, hK⟩ := merged_ev _ _ hlen1 hlen2
                rw [hall, ← mrgI_sort]
                exact ⟨K, hK K (Nat.le_refl _)⟩
              have HM := Aside0.mk (chapmanref36_merged.calls km Aa ca _ A0 c0 _ _ wr haC hac hgC hgc hkm)
              generalize (sortI (cs.getD ik ([], 0)).1).length = n2 at *
              generalize (sortI (allC cs (f.take k))).length = n1 at *
              clear hall hik hCF hCO hgC haC hkm hlen1 hlen2 nF nO
              go_wp2_with (fail)
              refine HM.out.mono ?_
              rintro e w3 ⟨v7, rfl, hV, hb⟩
              have HN2 := Aside0.mk (HN.out.moves hb)
              have hN3 : NI w f (sortI (allC cs (f.take (k + 1)))) (refC cs) (.slice (some ad2) cs.length cO) (.slice (some ad) 4 cF) v7 (.slice (some ⟨w2.heap.size, 0, none⟩) 0 0) 0 w3 := ⟨HN2.out.rO, HN2.out.rF, Kd.R_lower hV HN.out.below.size, HN2.out.rN, HN2.out.below⟩
              have HN3 := Aside0.mk hN3
              clear hV hb hN3 HN2 HM
              go_wp2
              go_roundw
              case rel => exact ⟨k + 1, by omega, by go_num, HN3⟩
              case measure => simp [intOf]; omega
            · rw [List.take_of_length_le (by omega)] at HN
              obtain ⟨Aa, ca, ea, hac, haC⟩ := Kd.R_reads HN.out.rA
              subst ea
              clear haC
              generalize hnX : (sortI (allC cs f)).length = nX at *
              clear hnX
              go_wp2
              obtain ⟨X, hX⟩ : ∃ X, X = sortI (allC cs f) := ⟨_, rfl⟩
              rw [← hX] at HN HNX
              have HXX := Aside0.mk hX
              clear hX
              go_loopw [9, 6] (fun v9 v6 w' => ∃ i : Nat, i ≤ cs.length ∧ v9 = .int .i64 i ∧ Aside0 (NI w f X (refC cs) (.slice AO cs.length cO) (.slice AF 4 cF) (.slice Aa nX ca) v6 i w')) (fun v9 _ _ => cs.length - (intOf v9).toNat)
              case atStart => exact ⟨0, by omega, rfl, HN⟩
              case round =>
                clear HN
                obtain ⟨i, hin, rfl, HN⟩ := hrel
                by_cases hlt3 : i < cs.length
                · obtain ⟨nF, hcF, hCF⟩ := Kd.R_reads' HN.out.rF
                  obtain ⟨ad, rfl, hx0⟩ := Kd.at_int hCF ((0 : Nat) : Int) (by omega) (by rw [← nF]; omega)
                  rw [natI_get HF0.out, Int.toNat_natCast, addr_zero] at hx0
                  obtain ⟨nO, hcO, hCO⟩ := Kd.R_reads' HN.out.rO
                  obtain ⟨ad2, A0, c0, rfl, hx1, hgc, hgC⟩ := rr_read hCO i (by rw [hrl]; exact hlt3) (x := sortI (cs.getD i ([], 0)).1) (by rw [← refC_get hlt3]; exact List.getElem?_eq_getElem _)
                  obtain ⟨ki, hki⟩ : ∃ q, chapmanref03_In.f q (natI f) (i : Int) = some (decide (i ∈ f)) := by
                    obtain ⟨K, hK⟩ := in_ev (natI f) (i : Int) (by rw [natI_length]; omega)
                    rw [show decide (i ∈ f) = decide ((i : Int) ∈ natI f) from decide_eq_decide.2 (by rw [mem_natI])]
                    exact ⟨K, hK K (Nat.le_refl _)⟩
                  have hin2 := fun W (hW : Kd.C (Kd.int .i64) W (some ad) (natI f).length (natI f)) => chapmanref03_In.calls ki (some ad) cF (natI f) (i : Int) _ W hW (by rw [← nF]; exact hcF) hki
                  rw [← nF] at hin2
                  have HIN := Aside0.mk hin2
                  have hnl := nextP_len f X (refC cs) i
                  have HNL := Aside0.mk hnl
                  have hcl := HOKC.out.num
                  clear hki hCF hCO hgC hin2 hnl nF nO hcF hcO
                  by_cases e0 : i = i0
                  · have hmem : i ∈ f := by rw [e0]; exact List.mem_of_mem_head? HFH.out
                    have HNP := Aside0.mk (nextP_hit (x := X) (G := refC cs) (e0 ▸ HFH.out))
                    rw [decide_eq_true hmem] at HIN
                    clear hmem
                    subst e0
                    go_wp2_with (at_builtin; refine Kd.R_append (Kd.slice 3 (Kd.int .i64)) (w0 := w) w.heap.size rfl (.tmp 55) (.tmp 57) 24 26 (.slice none 0 0) 24 rfl Try.underlying24 info26 rfl (by decide) (by decide) _ (nextP f X (refC cs) i) X [.slice Aa nX ca] (fun _ => True) (fun b => ∃ cells, wr.heap[b]? = some (.cells cells 3 (0, 0))) rfl rfl ?aP ?aK ?aF ?aO ?aB ?aS ?aL ?_; (case aP => exact ⟨_, rfl, typed3 HN.out.rA⟩); (case aK => exact fun b hb => apart26 HN.out.rN b hb); (case aF => exact fun _ _ => trivial); (case aO => exact HN.out.rN); (case aB => exact HN.out.below); (case aS => exact HN.out.below.size); (case aL => have := HNL.out; omega); intro v1 w5 ho hb hg5 hat; have HO5 := Aside0.mk ho; have HB5 := Aside0.mk hb; have HG5 := Aside0.mk hg5; have HAT := Aside0.mk hat; clear ho hb hg5 hat)
                    have hn5 : NI w f X (refC cs) (.slice (some ad2) cs.length cO) (.slice (some ad) 4 cF) (.slice Aa nX ca) v1 (i + 1) w5 := HN.out.app (j := i + 1) (by rw [HNP.out]; exact HO5.out) HB5.out HG5.out HAT.out
                    have HN5 := Aside0.mk hn5
                    clear hn5
                    refine (HIN.out w5 (by have := (Kd.R_reads' HN5.out.rF).2.2; rwa [natI_length, hfl] at this)).mono ?_
                    rintro e w6 ⟨rfl, hd⟩
                    have HN6 := Aside0.mk (HN5.out.moves (drawn_below hd))
                    clear hd
                    go_wp2
                    go_roundw
                    case rel => exact ⟨i + 1, by omega, by go_num, HN6⟩
                    case measure => simp [intOf]; omega
                  · by_cases hmem : i ∈ f
                    · have HNP := Aside0.mk (nextP_skip (x := X) (G := refC cs) HFH.out e0 hmem)
                      rw [decide_eq_true hmem] at HIN
                      have e1 : ¬ (i : Int) = (i0 : Int) := by omega
                      clear hmem e0
                      go_wp2_with (fail)
                      refine (HIN.out wr (by have := (Kd.R_reads' HN.out.rF).2.2; rwa [natI_length, hfl] at this)).mono ?_
                      rintro e w6 ⟨rfl, hd⟩
                      have hn6 : NI w f X (refC cs) (.slice (some ad2) cs.length cO) (.slice (some ad) 4 cF) (.slice Aa nX ca) u6 (i + 1) w6 := by
                        have := HN.out.moves (drawn_below hd)
                        exact ⟨this.rO, this.rF, this.rA, by rw [HNP.out]; exact this.rN, this.below⟩
                      have HN6 := Aside0.mk hn6
                      clear hd hn6
                      go_wp2
                      go_roundw
                      case rel => exact ⟨i + 1, by omega, by go_num, HN6⟩
                      case measure => simp [intOf]; omega
                    · have HNP := Aside0.mk (nextP_keep (x := X) (G := refC cs) (y := sortI (cs.getD i ([], 0)).1) HFH.out hmem (by rw [← refC_get hlt3]; exact List.getElem?_eq_getElem _))
                      rw [decide_eq_false hmem] at HIN
                      have e1 : ¬ (i : Int) = (i0 : Int) := by omega
                      obtain ⟨g, cap, eg, eg3⟩ := Kd.R_form HN.out.rO (by rw [hrl]; omega)
                      injection eg with eg eg4 eg5
                      injection eg with eg
                      subst eg
                      clear eg3 eg4 eg5
                      clear hmem e0 hx1 hgc
                      go_wp2_with (fail)
                      refine (HIN.out wr (by have := (Kd.R_reads' HN.out.rF).2.2; rwa [natI_length, hfl] at this)).mono ?_
                      rintro e w6 ⟨rfl, hd⟩
                      have HN6 := Aside0.mk (HN.out.moves (drawn_below hd))
                      obtain ⟨u, hce, hfz, hU⟩ := rr_get HN6.out.rO i hlt3
                      obtain ⟨A0, c0, eu, huc, _⟩ := Kd.R_reads hU
                      subst eu
                      have eg2 : (refC cs).getD i [] = sortI (cs.getD i ([], 0)).1 := by rw [← refC_get hlt3]; simp [List.getD_eq_getElem?_getD, hrl, hlt3]
                      rw [eg2] at hce hU huc
                      have HU := Aside0.mk (typed3 hU)
                      generalize (sortI (cs.getD i ([], 0)).1).length = nu at *
                      clear hd hfz hU eg2
                      go_wp2_with (at_builtin; refine Kd.R_append (Kd.slice 3 (Kd.int .i64)) (w0 := w) w.heap.size rfl (.tmp 63) (.tmp 68) 24 26 (.slice none 0 0) 24 rfl Try.underlying24 info26 rfl (by decide) (by decide) _ (nextP f X (refC cs) i) (sortI (cs.getD i ([], 0)).1) [.slice A0 nu c0] (fun _ => True) (fun b => ∃ cells, w6.heap[b]? = some (.cells cells 3 (0, 0))) rfl rfl ?aP ?aK ?aF ?aO ?aB ?aS ?aL ?_; (case aP => exact ⟨_, rfl, HU.out⟩); (case aK => exact fun b hb => apart26 HN6.out.rN b hb); (case aF => exact fun _ _ => trivial); (case aO => exact HN6.out.rN); (case aB => exact HN6.out.below); (case aS => exact HN6.out.below.size); (case aL => have := HNL.out; omega); intro v1 w5 ho hb hg5 hat; have HO5 := Aside0.mk ho; have HB5 := Aside0.mk hb; have HG5 := Aside0.mk hg5; have HAT := Aside0.mk hat; clear ho hb hg5 hat)
                      have hn5 : NI w f X (refC cs) (.slice (some ⟨g, 0, none⟩) cs.length cO) (.slice (some ad) 4 cF) (.slice Aa nX ca) v1 (i + 1) w5 := HN6.out.app (j := i + 1) (by rw [HNP.out]; exact HO5.out) HB5.out HG5.out HAT.out
                      have HN5 := Aside0.mk hn5
                      clear hn5
                      go_roundw
                      case rel => exact ⟨i + 1, by omega, by go_num, HN5⟩
                      case measure => simp [intOf]; omega
                · obtain rfl : i = cs.length := by omega
                  rw [hrl] at *
                  have h1 : CI w l (iterC l.length (startC (pcs l))) gk u6 wr := ⟨⟨cs', by rw [HNX.out]; exact HN.out.rN, HINV'.out, HOK'.out, HIT'.out, HLE'.out⟩, HN.out.below⟩
                  have H1 := Aside0.mk h1
                  clear h1
                  go_wp2
                  go_roundg gk
                  case measure => omega
                  case rel => exact H1

/-- In the printer's form. -/
def chapmanref36_clusters.f (l0 : List S43) : Option (List (List Int)) := if validL (pcs l0) then some (refC (iterC l0.length (startC (pcs l0)))) else none
theorem chapmanref36_clusters.calls (A0 : Option Addr) (c0 : Nat) (l0 : List S43) (r : List (List Int)) (w : World) (hr0 : Kd.C k43 w A0 l0.length l0) (hc0 : l0.length ≤ c0) (h : chapmanref36_clusters.f l0 = some r) :
    Calls Try.prog 34 #[.slice A0 l0.length c0] w fun e w' => ∃ v0_ : Value, e = .returned v0_ ∧ Kd.R (Kd.slice 3 (Kd.int .i64)) 26 w' w.heap.size (fun _ => True) v0_ r ∧ Below w.heap.size w w' := by
  unfold chapmanref36_clusters.f at h
  split at h
  · rename_i hv
    injection h with h
    subst h
    exact clus34 A0 c0 l0 w hr0 hc0 hv
  · cases h
end Go.Proofs.Ytckempgpaojljaa.P
end
section
/- Clusters part the indices; what After makes of the groups that are chosen. -/
namespace Go.Proofs.Ytckempgpaojljaa.P
set_option linter.unusedVariables false
set_option linter.unusedSimpArgs false
open Go.RowKit Go.Proofs.YtckempgpaojljaaW.PrintWords Go.Proofs.YtckempgpaojljaaW.PrintLast Go.Proofs.YtckempgpaojljaaW.PrintMore

/-- A cluster's first index. -/
def hdC (c : List Int × Int) : Int := c.1.headD 0
/-- The indices below n. -/
def ixs (n : Nat) : List Int := (List.range n).map fun (i : Nat) => (i : Int)
/-- Clusters part the indices; each begins with its least; they stand in the order of those. -/
structure PartC (n : Nat) (cs : List (List Int × Int)) : Prop where
  ne : ∀ c ∈ cs, c.1 ≠ []
  min : ∀ c ∈ cs, ∀ x ∈ c.1, hdC c ≤ x
  heads : (cs.map hdC).Pairwise (· < ·)
  perm : (cs.flatMap fun c => c.1).Perm (ixs n)

theorem split2 {α : Type} (cs : List α) (i j : Nat) (hij : i < j) (hj : j < cs.length) : ∃ (A B R : List α) (c d : α), cs = A ++ c :: (B ++ d :: R) ∧ A.length = i ∧ A.length + 1 + B.length = j := by
  refine ⟨cs.take i, (cs.drop (i + 1)).take (j - i - 1), cs.drop (j + 1), cs[i], cs[j], ?_, ?_, ?_⟩
  · have e : cs.drop j = (cs.drop (i + 1)).drop (j - i - 1) := by rw [List.drop_drop]; congr 1; omega
    rw [← List.drop_eq_getElem_cons hj, e, List.take_append_drop, ← List.drop_eq_getElem_cons (by omega), List.take_append_drop]
  · simp; omega
  · simp; omega

theorem PartC.merge {n : Nat} {cs : List (List Int × Int)} (h : PartC n cs) (i j : Nat) (hij : i < j) (hj : j < cs.length) : PartC n (mergeC cs i j) := by
  obtain ⟨A, B, R, c, d, rfl, rfl, rfl⟩ := split2 cs i j hij hj
  rw [mergeC_at]
  have hc := h.ne c (by simp)
  have hd : hdC (c.1 ++ d.1, c.2 + d.2) = hdC c := by
    unfold hdC
    cases hx : c.1 with
    | nil => exact absurd hx hc
    | cons x l => rfl
  have hcd : hdC c < hdC d := by
    have := h.heads
    rw [List.map_append, List.map_cons, List.map_append, List.map_cons, List.pairwise_append] at this
    have := this.2.1
    rw [List.pairwise_cons] at this
    exact this.1 _ (by simp)
  refine ⟨fun e he => ?_, fun e he x hx => ?_, ?_, ?_⟩
  · simp only [List.mem_append, List.mem_cons] at he
    rcases he with he | rfl | he | he
    · exact h.ne e (by simp [he])
    · simp [hc]
    · exact h.ne e (by simp [he])
    · exact h.ne e (by simp [he])
  · simp only [List.mem_append, List.mem_cons] at he
    rcases he with he | rfl | he | he
    · exact h.min e (by simp [he]) x hx
    · rw [hd]
      rcases List.mem_append.1 hx with hx | hx
      · exact h.min c (by simp) x hx
      · have := h.min d (by simp) x hx
        omega
    · exact h.min e (by simp [he]) x hx
    · exact h.min e (by simp [he]) x hx
  · refine List.Pairwise.sublist ?_ h.heads
    simp only [List.map_append, List.map_cons, hd]
    refine List.Sublist.append (List.Sublist.refl _) (List.Sublist.cons_cons _ ?_)
    exact List.Sublist.append (List.Sublist.refl _) (List.sublist_cons_self _ _)
  · refine List.Perm.trans ?_ h.perm
    simp only [List.flatMap_append, List.flatMap_cons, List.append_assoc]
    refine List.Perm.append_left _ (List.Perm.append_left _ ?_)
    rw [← List.append_assoc, ← List.append_assoc]
    exact List.Perm.append_right _ List.perm_append_comm
theorem PartC.step {n : Nat} {cs cs' : List (List Int × Int)} (h : PartC n cs) (hs : stepC cs = some cs') : PartC n cs' := by
  obtain ⟨i0, i1, i2, i3, hf, h0, h1, h2, h3, _⟩ := step_ref cs cs' hs
  unfold stepC at hs
  split at hs
  · exact absurd hs (by simp)
  · rename_i hn
    have hf2 : fourC cs = (posC cs (idx4 (cntC cs)) cs.length).take 4 := by unfold fourC; rw [if_neg hn]
    rw [← hf2, hf] at hs
    injection hs with hs
    rw [← hs]
    have l1 := mergeC_length cs i0 i1 (by omega)
    have k1 := h.merge i0 i1 (by omega) (by omega)
    have l2 := mergeC_length (mergeC cs i0 i1) i0 (i2 - 1) (by omega)
    have k2 := k1.merge i0 (i2 - 1) (by omega) (by omega)
    exact k2.merge i0 (i3 - 2) (by omega) (by omega)
theorem startC_heads (l : List S59) (k : Nat) : ((l.zipIdx k).map fun q => (([(q.2 : Int)], q.1.f0) : List Int × Int)).map hdC = (List.range' k l.length).map fun (i : Nat) => (i : Int) := by
  induction l generalizing k with
  | nil => rfl
  | cons x l ih =>
    rw [List.zipIdx_cons, List.map_cons, List.map_cons, ih, List.length_cons, List.range'_succ, List.map_cons]
    rfl
theorem startC_flat (l : List S59) (k : Nat) : (((l.zipIdx k).map fun q => (([(q.2 : Int)], q.1.f0) : List Int × Int)).flatMap fun c => c.1) = (List.range' k l.length).map fun (i : Nat) => (i : Int) := by
  induction l generalizing k with
  | nil => rfl
  | cons x l ih =>
    rw [List.zipIdx_cons, List.map_cons, List.flatMap_cons, ih, List.length_cons, List.range'_succ, List.map_cons]
    rfl
theorem PartC.start (l : List S59) : PartC l.length (startC l) := by
  refine ⟨fun c hc => ?_, fun c hc x hx => ?_, ?_, ?_⟩
  · obtain ⟨q, _, rfl⟩ := List.mem_map.1 hc
    simp
  · obtain ⟨q, _, rfl⟩ := List.mem_map.1 hc
    simp at hx
    subst hx
    exact Int.le_refl _
  · show (((l.zipIdx).map fun q => (([(q.2 : Int)], q.1.f0) : List Int × Int)).map hdC).Pairwise (· < ·)
    rw [startC_heads]
    rw [List.pairwise_map]
    exact List.Pairwise.imp (fun h => by omega) (List.pairwise_lt_range' (s := 0) (n := l.length) (step := 1))
  · show ((((l.zipIdx).map fun q => (([(q.2 : Int)], q.1.f0) : List Int × Int)).flatMap fun c => c.1)).Perm _
    rw [startC_flat, ← List.range_eq_range']
    exact List.Perm.refl _
theorem PartC.iter {n : Nat} (k : Nat) : ∀ {cs : List (List Int × Int)}, PartC n cs → PartC n (iterC k cs) := by
  induction k with
  | zero => intro cs h; exact h
  | succ k ih =>
    intro cs h
    unfold iterC
    cases hs : stepC cs with
    | none => exact h
    | some cs' => exact ih (h.step hs)
theorem InvC.iter {l : List S43} (k : Nat) : ∀ {cs : List (List Int × Int)}, InvC l cs → InvC l (iterC k cs) := by
  induction k with
  | zero => intro cs h; exact h
  | succ k ih =>
    intro cs h
    unfold iterC
    cases hs : stepC cs with
    | none => exact h
    | some cs' => exact ih (h.step hs)
/-- In the end nothing is left to do. -/
theorem iterC_done (k : Nat) : ∀ (cs : List (List Int × Int)), OkC cs → cs.length ≤ k → stepC (iterC k cs) = none := by
  induction k with
  | zero =>
    intro cs h hl
    have : cs = [] := List.length_eq_zero_iff.1 (by omega)
    subst this
    cases hs : stepC [] with
    | none => exact hs
    | some cs' => have := (stepC_ok h hs).2; simp at this
  | succ k ih =>
    intro cs h hl
    unfold iterC
    cases hs : stepC cs with
    | none => exact hs
    | some cs' =>
      obtain ⟨h1, h2⟩ := stepC_ok h hs
      exact ih cs' h1 (by omega)
end Go.Proofs.Ytckempgpaojljaa.P
end
section
/- What After makes of the groups that are chosen: one piece for each cluster. -/
namespace Go.Proofs.Ytckempgpaojljaa.P
set_option linter.unusedVariables false
set_option linter.unusedSimpArgs false
open Go.RowKit Go.Proofs.YtckempgpaojljaaW.PrintWords Go.Proofs.YtckempgpaojljaaW.PrintLast Go.Proofs.YtckempgpaojljaaW.PrintMore

theorem getD_set {α : Type} (l : List α) (i k : Nat) (a d : α) (hi : i < l.length) : (l.set i a).getD k d = if k = i then a else l.getD k d := by
  simp only [List.getD_eq_getElem?_getD, List.getElem?_set]
  by_cases h : i = k
  · subst h; simp [hi]
  · rw [if_neg h, if_neg (fun e => h e.symm)]

theorem claim1_ok (g : List Int) (n : Nat) : ∀ (is : List Int) (ow : List (List Int)), is.Nodup → ow.length = n → (∀ i ∈ is, 0 ≤ i ∧ i < n ∧ ow.getD i.toNat [] = []) →
    ∃ ow', claim1 g is ow = some ow' ∧ ow'.length = n ∧ ∀ k : Nat, ow'.getD k [] = if (k : Int) ∈ is then g else ow.getD k [] := by
  intro is
  induction is with
  | nil => intro ow _ hl _; exact ⟨ow, rfl, hl, fun k => by simp⟩
  | cons i is ih =>
    intro ow hn hl hi
    obtain ⟨h0, h1, h2⟩ := hi i (by simp)
    rw [List.nodup_cons] at hn
    obtain ⟨ow', e, hl', hk⟩ := ih (ow.set i.toNat g) hn.2 (by simp [hl]) (fun j hj => by
      obtain ⟨j0, j1, j2⟩ := hi j (by simp [hj])
      refine ⟨j0, j1, ?_⟩
      rw [getD_set _ _ _ _ _ (by omega), if_neg (fun e => hn.1 (by rw [show i = j by omega]; exact hj))]
      exact j2)
    refine ⟨ow', ?_, hl', fun k => ?_⟩
    · unfold claim1
      rw [h2]
      exact e
    · rw [hk k, getD_set _ _ _ _ _ (by omega)]
      by_cases e1 : (k : Int) ∈ is
      · rw [if_pos e1, if_pos (by simp [e1])]
      · rw [if_neg e1]
        by_cases e2 : k = i.toNat
        · rw [if_pos e2, if_pos (by simp; omega)]
        · rw [if_neg e2, if_neg (by simp [e1]; omega)]

/-- The group that an index is in; none: no list. -/
def groupOf (G : List (List Int)) (k : Nat) : List Int := (G.find? fun g => decide ((k : Int) ∈ g)).getD []

theorem incr_of {n : Int} : ∀ (l : List Int) (last : Int), l.Pairwise (· < ·) → (∀ x ∈ l, last < x ∧ x < n) → incr n last l = true := by
  intro l
  induction l with
  | nil => intro _ _ _; rfl
  | cons x l ih =>
    intro last hp hb
    rw [List.pairwise_cons] at hp
    obtain ⟨h1, h2⟩ := hb x (by simp)
    simp only [incr, Bool.and_eq_true, decide_eq_true_eq]
    exact ⟨⟨h1, h2⟩, ih x hp.2 (fun y hy => ⟨hp.1 y hy, (hb y (by simp [hy])).2⟩)⟩
theorem incr_sorted {n : Int} : ∀ {l : List Int} {last : Int}, incr n last l = true → l.Pairwise (· < ·) := by
  intro l
  induction l with
  | nil => intro _ _; exact List.Pairwise.nil
  | cons x l ih =>
    intro last h
    simp only [incr, Bool.and_eq_true, decide_eq_true_eq] at h
    rw [List.pairwise_cons]
    have key : ∀ {l : List Int} {a : Int}, incr n a l = true → ∀ y ∈ l, a < y := by
      intro l
      induction l with
      | nil => intro a _ y hy; cases hy
      | cons z l ih2 =>
        intro a ha y hy
        simp only [incr, Bool.and_eq_true, decide_eq_true_eq] at ha
        rcases List.mem_cons.1 hy with rfl | hy
        · omega
        · have := ih2 ha.2 y hy
          omega
    exact ⟨fun y hy => key h.2 y hy, ih h.2⟩
theorem okG_nodup {n : Int} {g : List Int} (h : okG n g = true) : g.Nodup := by
  simp only [okG, Bool.and_eq_true] at h
  exact (incr_sorted h.1).imp (fun h => by omega)

theorem owners_ok (n : Nat) : ∀ (G : List (List Int)) (ow : List (List Int)), ow.length = n → (∀ g ∈ G, okG n g = true) → G.Pairwise (fun a b => ∀ x ∈ a, ∀ y ∈ b, x ≠ y) → (∀ g ∈ G, ∀ i ∈ g, ow.getD i.toNat [] = []) →
    ∃ ow', owners n G ow = some ow' ∧ ow'.length = n ∧ ∀ k : Nat, ow'.getD k [] = if ∃ g ∈ G, (k : Int) ∈ g then groupOf G k else ow.getD k [] := by
  intro G
  induction G with
  | nil => intro ow hl _ _ _; exact ⟨ow, rfl, hl, fun k => by simp⟩
  | cons g G ih =>
    intro ow hl hok hd hfree
    rw [List.pairwise_cons] at hd
    have hg := hok g (by simp)
    obtain ⟨ow1, e1, hl1, hk1⟩ := claim1_ok g n g ow (okG_nodup hg) hl (fun i hi => by
      have := okG_bd hg i hi
      exact ⟨this.1, this.2, hfree g (by simp) i hi⟩)
    obtain ⟨ow2, e2, hl2, hk2⟩ := ih ow1 hl1 (fun g' hg' => hok g' (by simp [hg'])) hd.2 (fun g' hg' i hi => by
      have hb := okG_bd (hok g' (by simp [hg'])) i hi
      rw [hk1 i.toNat, show ((i.toNat : Nat) : Int) = i by omega, if_neg (fun h => hd.1 g' hg' i h i hi rfl)]
      exact hfree g' (by simp [hg']) i hi)
    refine ⟨ow2, ?_, hl2, fun k => ?_⟩
    · unfold owners
      rw [if_pos hg, e1]
      exact e2
    · rw [hk2 k, hk1 k]
      by_cases h1 : (k : Int) ∈ g
      · rw [if_neg (fun ⟨g', hg', h⟩ => hd.1 g' hg' _ h1 _ h rfl), if_pos h1, if_pos ⟨g, by simp, h1⟩]
        simp [groupOf, h1]
      · by_cases h2 : ∃ g' ∈ G, (k : Int) ∈ g'
        · rw [if_pos h2, if_pos (by obtain ⟨g', a, b⟩ := h2; exact ⟨g', by simp [a], b⟩)]
          simp [groupOf, h1]
        · rw [if_neg h2, if_neg h1, if_neg (fun ⟨g', a, b⟩ => by
            rcases List.mem_cons.1 a with rfl | a
            · exact h1 b
            · exact h2 ⟨g', a, b⟩)]

/-- The piece that a cluster makes. -/
def sumC (l : List S59) (g : List Int) : S59 := ⟨sumG (fun i => (rd_T59 l i).f0) g, sumG (fun i => (rd_T59 l i).f1) g⟩
theorem sumC_perm {l : List S59} {a b : List Int} (h : a.Perm b) : sumC l a = sumC l b := by
  unfold sumC
  rw [sumG_perm h, sumG_perm h]

theorem heads_flat {β : Type} (f : List Int × Int → β) : ∀ (m s : Nat) (cs : List (List Int × Int)), (cs.map hdC).Pairwise (· < ·) → (∀ c ∈ cs, (s : Int) ≤ hdC c ∧ hdC c < ((s + m : Nat) : Int)) →
    ((List.range' s m).flatMap fun (k : Nat) => ((cs.find? fun c => decide (hdC c = (k : Int))).map f).toList) = cs.map f := by
  intro m
  induction m with
  | zero =>
    intro s cs _ hb
    cases cs with
    | nil => rfl
    | cons c cs => have := hb c (by simp); omega
  | succ m ih =>
    intro s cs hp hb
    rw [List.range'_succ, List.flatMap_cons]
    cases cs with
    | nil =>
      rw [ih (s + 1) [] hp (fun c hc => by cases hc)]
      rfl
    | cons c cs =>
      rw [List.map_cons, List.pairwise_cons] at hp
      by_cases hs : hdC c = (s : Int)
      · have h2 := ih (s + 1) cs hp.2 (fun d hd => by
          have h3 := hp.1 (hdC d) (List.mem_map.2 ⟨d, hd, rfl⟩)
          have h4 := hb d (by simp [hd])
          omega)
        have e : ((List.range' (s + 1) m).flatMap fun (k : Nat) => (((c :: cs).find? fun c => decide (hdC c = (k : Int))).map f).toList) = cs.map f := by
          rw [← h2]
          rw [List.flatMap_def, List.flatMap_def]
          congr 1
          apply List.map_congr_left
          intro k hk
          have hk2 := List.mem_range'_1.1 hk
          rw [List.find?_cons_of_neg (by simp; omega)]
        rw [e, List.find?_cons_of_pos (by simpa using hs)]
        rfl
      · have hn : ((c :: cs).find? fun c => decide (hdC c = (s : Int))) = none := by
          rw [List.find?_eq_none]
          intro d hd
          rcases List.mem_cons.1 hd with rfl | hd
          · simpa using hs
          · have h3 := hp.1 (hdC d) (List.mem_map.2 ⟨d, hd, rfl⟩)
            have h4 := hb c (by simp)
            simp; omega
        rw [hn]
        have := ih (s + 1) (c :: cs) (by rw [List.map_cons, List.pairwise_cons]; exact hp) (fun d hd => by
          have h4 := hb d hd
          have h5 := hb c (by simp)
          rcases List.mem_cons.1 hd with rfl | hd
          · omega
          · have h3 := hp.1 (hdC d) (List.mem_map.2 ⟨d, hd, rfl⟩)
            omega)
        rw [this]
        rfl
end Go.Proofs.Ytckempgpaojljaa.P
end
