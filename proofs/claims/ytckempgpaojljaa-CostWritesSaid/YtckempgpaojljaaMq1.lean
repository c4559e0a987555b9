/- Parts of a proof, laid together: TFa, TPx0, TRa, THa, THb1, THb2, THb3, THb4, THb5, THc1, THc2, THc3, THd1, THd2. -/
import Derived.Test.YtckempgpaojljaaProg
import Derived.WalkKit
import Derived.KernelRfl
import Derived.Below
import Derived.Deep.Draws
import Derived.Deep.AppendLies
import Derived.Maps.AppendAt
import Derived.OwnWalk
import Derived.Laws.BytesArg
import Derived.Laws.MakeOwn
import Derived.Laws.OwnMore
import Derived.Deep.OwnRows
import Derived.Tactics
import Derived.Lib.ConvBytes
import Derived.Laws.Slices
import Derived.RowKit3
import Derived.Deep.LoopGhost
import Derived.Deep.QuietTactic
import Derived.BigQuiet
import Derived.WideLaws
import Derived.Deep.DeepCutAuto
import Derived.Deep.CutBlock
import Derived.Deep.RegionHeld3
import Derived.Laws.Rows
import Derived.Lib.AppendStr
import Derived.ArgAppend
import Derived.Laws.IdiomCopy
import Derived.OrdersHeld
import Derived.Laws.BitsLemmas
import Derived.RowKit
import Derived.Test.YtckempgpaojljaaTWWords
import Derived.Test.YtckempgpaojljaaTWLast
import Derived.Test.YtckempgpaojljaaTWTab
import Derived.Test.YtckempgpaojljaaTWFour
import Derived.Test.YtckempgpaojljaaTWQPut
import Derived.Test.YtckempgpaojljaaTWApart
import Derived.Test.YtckempgpaojljaaTWArr
import Derived.Test.YtckempgpaojljaaTWZeros
import Derived.Test.YtckempgpaojljaaTWFoot
import Derived.Test.YtckempgpaojljaaTWKept
import Derived.Test.YtckempgpaojljaaTWShare
import Derived.Test.YtckempgpaojljaaTWN
import Derived.Test.YtckempgpaojljaaTWFootNe
import Derived.Test.YtckempgpaojljaaTWAt
import Derived.Test.YtckempgpaojljaaTWEqStruct
import Derived.Test.YtckempgpaojljaaTWRepsOne
import Derived.Test.YtckempgpaojljaaTWInv
import Derived.Test.YtckempgpaojljaaTWInvWords
import Derived.Test.YtckempgpaojljaaTWGuard
import Derived.Test.YtckempgpaojljaaTWNEv
import Derived.Test.YtckempgpaojljaaTWMore
import Derived.Deep.Slices
import Derived.ChangeArms
import Derived.OpenShut
import Derived.LaidEqlPtr
import Derived.RangeFuncNested
import Derived.RangeFuncBound
import Derived.RangeFuncCalls
import Derived.RangeFuncLeaves
import Derived.OwnWalkIn
import Derived.TacticsInMore
import Derived.LoopNIn
import Derived.LoopIn
import Derived.OrdersIn
section
/- Fields of a struct that a call returns, for the walks. -/
namespace Go.Proofs.Ytckempgpaojljaa.P
open Go.RowKit
@[go_sem] theorem field36_0 (A B : Option Addr) (n c m d : Nat) (x y : Int) (w : World) : (Instr.field 36 (.agg #[.slice A n c, .slice B m d, .int .i64 x, .int .i64 y]) 0).run Try.prog w = .ok (.slice A n c) w := by kernel_rfl
@[go_sem] theorem field36_2 (A B : Option Addr) (n c m d : Nat) (x y : Int) (w : World) : (Instr.field 36 (.agg #[.slice A n c, .slice B m d, .int .i64 x, .int .i64 y]) 2).run Try.prog w = .ok (.int .i64 x) w := by kernel_rfl
@[go_sem] theorem field36_3 (A B : Option Addr) (n c m d : Nat) (x y : Int) (w : World) : (Instr.field 36 (.agg #[.slice A n c, .slice B m d, .int .i64 x, .int .i64 y]) 3).run Try.prog w = .ok (.int .i64 y) w := by kernel_rfl
end Go.Proofs.Ytckempgpaojljaa.P
end
section
namespace Go.Proofs.Ytckempgpaojljaa.P
open Go.RowKit Go.Proofs.YtckempgpaojljaaW.PrintWords Go.Proofs.YtckempgpaojljaaW.PrintLast Go.Proofs.YtckempgpaojljaaW.PrintMore
attribute [local go_sem] max2_int min2_int max_two min_two max_three min_three max_four min_four   -- for this text's walks alone
set_option linter.unusedVariables false
set_option linter.unusedSimpArgs false
def errW : Option Int → Value
  | none => .nilIface
  | some c => .iface 0 (.int .i64 c)
theorem errW_none : errW none = .nilIface := rfl
theorem errW_some (c : Int) : errW (some c) = .iface 0 (.int .i64 c) := rfl
theorem info3 : (Try.prog.info? 3).map (fun i => (i.zero, i.size, i.bytes)) = some (some (.int .i64 0), 1, 8) := by kernel_rfl
theorem info26 : (Try.prog.info? 26).map (fun i => (i.zero, i.size, i.bytes)) = some (some (.slice none 0 0), 1, 24) := by kernel_rfl
theorem info43 : (Try.prog.info? 43).map (fun i => (i.zero, i.size, i.bytes)) = some (some (.agg #[(.int .i64 0), (.int .i64 0)]), 2, 16) := by kernel_rfl
theorem info59 : (Try.prog.info? 59).map (fun i => (i.zero, i.size, i.bytes)) = some (some (.agg #[(.int .i64 0), (.int .i64 0)]), 2, 16) := by kernel_rfl
structure S59 where
  f0 : Int
  f1 : Int
def z59 : S59 := ⟨(0 : Int), (0 : Int)⟩
def k59 : Kd S59 := Kd.iso (Kd.pair (Kd.int .i64) (Kd.int .i64)) (fun x : S59 => (x.f0, x.f1))
theorem k59_open {w : World} {x : S59} {cs : List Value} (h : k59.K w x cs) : cs = [.int .i64 x.f0, .int .i64 x.f1] := by
  obtain ⟨_, _, rfl, rfl, rfl⟩ := h
  exact rfl
theorem k59_mkM (w : World) (base : Nat) (ok : Nat → Prop) (x : S59)  : k59.M w base ok x [.int .i64 x.f0, .int .i64 x.f1] := ⟨[.int .i64 x.f0], [.int .i64 x.f1], rfl, rfl, rfl⟩
def rd_T59 (xs : List S59) (i : Int) : S59 := xs.getD i.toNat z59
theorem at_T59 {w : World} {A : Option Addr} {n : Nat} {xs : List S59} (h : Kd.C k59 w A n xs) (i : Int) (h0 : 0 ≤ i) (h1 : i < n) : ∃ ad , A = some ad ∧ w.cell? (ad.add (i.toNat * 2)) = some (.int .i64 (rd_T59 xs i).f0) ∧ w.cell? ⟨(ad.add (i.toNat * 2)).block, (ad.add (i.toNat * 2)).off + 1, none⟩ = some (.int .i64 (rd_T59 xs i).f1) := by
  obtain ⟨ad, c, e, _, hK, hc0⟩ := Kd.C_get h z59 i h0 h1
  have hc : ∀ j u, c[j]? = some u → w.cell? (ad.add (i.toNat * 2 + j)) = some u := hc0
  obtain rfl := k59_open hK
  exact ⟨ad, e, hc 0 _ rfl, by rw [← add_field _ _ 1 (by omega)]; exact hc 1 _ rfl⟩
structure S43 where
  f0 : Int
  f1 : Int
def z43 : S43 := ⟨(0 : Int), (0 : Int)⟩
def k43 : Kd S43 := Kd.iso (Kd.pair (Kd.int .i64) (Kd.int .i64)) (fun x : S43 => (x.f0, x.f1))
theorem k43_open {w : World} {x : S43} {cs : List Value} (h : k43.K w x cs) : cs = [.int .i64 x.f0, .int .i64 x.f1] := by
  obtain ⟨_, _, rfl, rfl, rfl⟩ := h
  exact rfl
theorem k43_mkM (w : World) (base : Nat) (ok : Nat → Prop) (x : S43)  : k43.M w base ok x [.int .i64 x.f0, .int .i64 x.f1] := ⟨[.int .i64 x.f0], [.int .i64 x.f1], rfl, rfl, rfl⟩
def rd_T43 (xs : List S43) (i : Int) : S43 := xs.getD i.toNat z43
theorem at_T43 {w : World} {A : Option Addr} {n : Nat} {xs : List S43} (h : Kd.C k43 w A n xs) (i : Int) (h0 : 0 ≤ i) (h1 : i < n) : ∃ ad , A = some ad ∧ w.cell? (ad.add (i.toNat * 2)) = some (.int .i64 (rd_T43 xs i).f0) ∧ w.cell? ⟨(ad.add (i.toNat * 2)).block, (ad.add (i.toNat * 2)).off + 1, none⟩ = some (.int .i64 (rd_T43 xs i).f1) := by
  obtain ⟨ad, c, e, _, hK, hc0⟩ := Kd.C_get h z43 i h0 h1
  have hc : ∀ j u, c[j]? = some u → w.cell? (ad.add (i.toNat * 2 + j)) = some u := hc0
  obtain rfl := k43_open hK
  exact ⟨ad, e, hc 0 _ rfl, by rw [← add_field _ _ 1 (by omega)]; exact hc 1 _ rfl⟩
def rd_L5 (xs : List (List Int)) (i : Int) : (List Int) := xs.getD i.toNat ([] : List Int)
theorem at_L5 {w : World} {A : Option Addr} {n : Nat} {xs : List (List Int)} (h : Kd.C (Kd.slice 3 (Kd.int .i64)) w A n xs) (i : Int) (h0 : 0 ≤ i) (h1 : i < n) : ∃ ad A0 c0, A = some ad ∧ w.cell? (ad.add i.toNat) = some (.slice A0 (rd_L5 xs i).length c0) ∧ (rd_L5 xs i).length ≤ c0 ∧ (Kd.int .i64).C w A0 (rd_L5 xs i).length (rd_L5 xs i) := by
  obtain ⟨ad, c, e, _, hK, hc0⟩ := Kd.C_get h ([] : List Int) i h0 h1
  have hc : ∀ j u, c[j]? = some u → w.cell? (ad.add (i.toNat * 1 + j)) = some u := hc0
  obtain ⟨A0, c0, rfl, l0, g0⟩ := hK
  exact ⟨ad, A0, c0, e, by have hq := hc 0 _ rfl; rwa [Nat.mul_one, Nat.add_zero] at hq, l0, g0⟩
end Go.Proofs.Ytckempgpaojljaa.P
end
section
/- Arguments opened: what a reading of plain data says of the cells, kind by kind. -/
namespace Go.Proofs.Ytckempgpaojljaa.P
set_option linter.unusedVariables false
set_option linter.unusedSimpArgs false
open Go.RowKit Go.Proofs.YtckempgpaojljaaW.PrintWords Go.Proofs.YtckempgpaojljaaW.PrintLast Go.Proofs.YtckempgpaojljaaW.PrintMore
def Opens {α : Type} (d : Kd α) (t : TypeId) (ok : α → Prop) : Prop := ∀ {H : Type} {enc : TypeId × Value → H} {W : World} {base : Nat} {spare : Nat → Bool} {held : Bool} {fuel : Nat} {cs : List Value} {x : DataW H × List MemPlace},
  DataW.trod enc Try.prog W base spare held fuel t cs = some x → ∃ a, d.K W a cs ∧ ok a
theorem opens_int {k : IntKind} {t : TypeId} (ht : Try.prog.underlying t = some (.int k)) : Opens (Kd.int k) t (fun n => (Lit.int k n).wf = true) := by
  intro H enc W base spare held fuel cs x h
  obtain ⟨n, rfl, _, hw⟩ := DataW.trod_int ht h
  exact ⟨n, rfl, hw⟩
theorem opens_slice {α : Type} [Inhabited α] {d : Kd α} {t e : TypeId} {ok : α → Prop} (ht : Try.prog.underlying t = some (.slice e)) (hd : Opens d e ok) (hs : Try.prog.cellsOf e = d.sz) : Opens (Kd.slice e d) t (fun xs => (∀ a ∈ xs, ok a) ∧ xs.length ≤ maxLen) := by
  intro H enc W base spare held fuel cs x h
  rcases Deep.open_slice ht h with ⟨rfl, _⟩ | ⟨a, len, cap, m, n, D, Pl, rfl, hb, hl, hm, hmm, _, hx⟩
  · exact ⟨[], ⟨none, 0, rfl, Nat.le_refl _, Kd.C_nil _ _⟩, by simp, by simp⟩
  · have hlm : len ≤ m := by rw [hmm]; split <;> omega
    obtain ⟨f, hf⟩ := Deep.choose_lt (n := len) (p := fun i y => (∃ cs', W.cells? base (a.add (i * d.sz)) d.sz = some cs' ∧ d.K W y cs') ∧ ok y) (fun i hi => by
      obtain ⟨cs', h1, h2⟩ := hx i (by omega)
      rw [hs] at h1
      obtain ⟨y, hy, oy⟩ := hd h2
      exact ⟨y, ⟨cs', h1, hy⟩, oy⟩)
    have hlen : ((List.range len).map f).length = len := by simp
    refine ⟨(List.range len).map f, ⟨some a, cap, by rw [hlen], by rw [hlen]; exact hl, ?_⟩, fun y hy => ?_, by rw [hlen]; omega⟩
    · refine ⟨rfl, ?_, fun _ => ⟨a, rfl, fun j p hp => ?_⟩⟩
      · rw [hlen]
        have : maxLen ≤ 9223372036854775807 := by decide
        omega
      · have hj : j < len := by have := (List.getElem?_eq_some_iff.1 hp).1; rwa [hlen] at this
        have e : f j = p := by
          rw [List.getElem?_map, List.getElem?_range hj] at hp
          exact Option.some.inj hp
        obtain ⟨⟨cs', h1, h2⟩, _⟩ := hf j hj
        obtain ⟨_, h3, h4⟩ := World.cells?_some h1
        refine ⟨cs', h3, by rw [← e]; exact h2, fun i u hu => ?_⟩
        have hi : i < d.sz := by have := (List.getElem?_eq_some_iff.1 hu).1; omega
        have := h4 i hi
        rw [Deep.add_add] at this
        rw [this]
        exact hu
    · obtain ⟨i, hi, rfl⟩ := List.mem_map.1 hy
      exact (hf i (List.mem_range.1 hi)).2
theorem open_at {α : Type} {d : Kd α} {t : TypeId} {ok : α → Prop} (hd : Opens d t ok) {H : Type} {enc : TypeId × Value → H} {W : World} {base : Nat} {spare : Nat → Bool} {held : Bool} {v : Value} {D : DataW H} {ps : List MemPlace} (h : DataW.Trod enc Try.prog W base spare held t v D ps) : ∃ a, d.K W a v.cells.toList ∧ ok a := by
  obtain ⟨fuel, hf⟩ := h
  exact hd hf
end Go.Proofs.Ytckempgpaojljaa.P
end
section
/- The contract of cost.Valid: it returns whether all pieces are in bounds and there are at most 512; conditions: none but that the slice reads as a list. -/
namespace Go.Proofs.Ytckempgpaojljaa.P
set_option linter.unusedVariables false
set_option linter.unusedSimpArgs false
open Go.RowKit Go.Proofs.YtckempgpaojljaaW.PrintWords Go.Proofs.YtckempgpaojljaaW.PrintLast Go.Proofs.YtckempgpaojljaaW.PrintMore
def oddP (p : S59) : Bool := decide (p.f0 < 1) || decide (5994 < p.f0) || decide (p.f1 < 0) || decide (1000000000 < p.f1)
theorem ret_int {k : IntKind} {a b : Int} (h : a = b) : Ending.returned (.int k a) = .returned (.int k b) := by rw [h]
theorem ret_bool {a b : Bool} (h : a = b) : Ending.returned (.bool a) = .returned (.bool b) := by rw [h]
theorem odd31 (p : S59) (w : World) : Calls Try.prog 31 #[.agg #[.int .i64 p.f0, .int .i64 p.f1]] w fun e w' => e = .returned (.bool (oddP p)) ∧ Below w.heap.size w w' := by
  go_enter Try.func31, Try.ntmps31
  go_wp2
  all_goals (go_ret; refine ⟨?_, (Below.refl _ _).alloc (Nat.le_refl _) _⟩)
  all_goals simp [oddP, *]
theorem odd31T (p : S59) (w : World) (h : oddP p = true) : Calls Try.prog 31 #[.agg #[.int .i64 p.f0, .int .i64 p.f1]] w fun e w' => e = .returned (.bool true) ∧ Below w.heap.size w w' := h ▸ odd31 p w
theorem odd31F (p : S59) (w : World) (h : oddP p = false) : Calls Try.prog 31 #[.agg #[.int .i64 p.f0, .int .i64 p.f1]] w fun e w' => e = .returned (.bool false) ∧ Below w.heap.size w w' := h ▸ odd31 p w
def idxOdd (l : List S59) : Int := match l.findIdx? oddP with | some i => (i : Int) | none => -1
theorem idxOdd_at (l : List S59) (k : Nat) (hk : k < l.length) (h : ∀ j, j < k → oddP (l.getD j z59) = false) (ho : oddP (rd_T59 l k) = true) : idxOdd l = k := by
  have : l.findIdx? oddP = some k := by
    rw [List.findIdx?_eq_some_iff_getElem]
    refine ⟨hk, by simpa [rd_T59, List.getD_eq_getElem?_getD, hk] using ho, fun j hj => ?_⟩
    have := h j hj
    have hj' : j < l.length := by omega
    simpa [List.getD_eq_getElem?_getD, hj'] using this
  simp [idxOdd, this]
theorem idxOdd_none (l : List S59) (h : ∀ j, j < l.length → oddP (l.getD j z59) = false) : idxOdd l = -1 := by
  have : l.findIdx? oddP = none := by
    rw [List.findIdx?_eq_none_iff]
    intro x hx
    obtain ⟨i, hi, rfl⟩ := List.getElem_of_mem hx
    simpa [List.getD_eq_getElem?_getD, hi] using h i hi
  simp [idxOdd, this]
set_option maxHeartbeats 400000 in
theorem idx42 (A : Option Addr) (c : Nat) (l : List S59) (w : World) (hr : Kd.C k59 w A l.length l) (hc : l.length ≤ c) :
    Calls Try.prog 42 #[.slice A l.length c, .func (.func 31) #[] #[]] w fun e w' => e = .returned (.int .i64 (idxOdd l)) ∧ Below w.heap.size w w' := by
  have hl : l.length ≤ 9223372036854775807 := hr.2.1
  have HR := Aside0.mk hr
  clear hr
  go_enter Try.func42, Try.ntmps42
  go_wp2
  go_loopw [8, 5] (fun v8 v5 w' => ∃ k : Nat, k ≤ l.length ∧ v8 = .int .i64 k ∧ Aside0 (∀ j, j < k → oddP (l.getD j z59) = false) ∧ Aside0 (Below w.heap.size w w')) (fun v8 _ _ => l.length - (intOf v8).toNat)
  case atStart => exact ⟨0, by omega, rfl, ⟨by omega⟩, ⟨Below.refl _ _⟩⟩
  case round =>
    obtain ⟨k, hk, rfl, HP, HB⟩ := hrel
    by_cases hlt : k < l.length
    · obtain ⟨ad, rfl, h0, h1⟩ := at_T59 HR.out (k : Int) (by omega) (by omega)
      replace h0 := (HB.out.cell (World.block_lt_of_cell? w _ h0)).trans h0
      replace h1 := (HB.out.cell (World.block_lt_of_cell? w _ h1)).trans h1
      simp only [Int.toNat_natCast] at h0 h1
      generalize hp : rd_T59 l k = p at h0 h1
      have Hp := Aside0.mk hp
      clear hp
      go_wp2_with (fail)
      by_cases hodd : oddP p = true
      · have HO := Aside0.mk hodd
        refine (odd31T p _ hodd).mono ?_
        clear hodd
        rintro e w1 ⟨rfl, hb⟩
        have HB1 := Aside0.mk hb
        clear hb
        go_wp2
        go_ret
        exact ⟨ret_int (idxOdd_at l k hlt HP.out (by rw [Hp.out]; exact HO.out)).symm, below_step HB.out HB1.out⟩
      · have hodd' : oddP p = false := by simpa using hodd
        have HO := Aside0.mk hodd'
        refine (odd31F p _ hodd').mono ?_
        clear hodd hodd'
        rintro e w1 ⟨rfl, hb⟩
        have HB1 := Aside0.mk hb
        clear hb
        go_wp2
        go_roundw
        case rel => exact ⟨k + 1, by omega, by go_num, ⟨fun j hj => by
          rcases Nat.lt_or_ge j k with h | h
          · exact HP.out j h
          · obtain rfl : j = k := by omega
            have := HO.out
            rw [← Hp.out] at this
            simpa [rd_T59] using this⟩, ⟨below_step HB.out HB1.out⟩⟩
        case measure => simp [intOf]; omega
    · go_wp2
      obtain rfl : k = l.length := by omega
      go_ret
      exact ⟨ret_int (idxOdd_none l HP.out).symm, HB.out⟩
def validL (l : List S59) : Bool := decide (l.length ≤ 512) && l.all (fun p => !oddP p)
theorem contains32 (A : Option Addr) (c : Nat) (l : List S59) (w : World) (hr : Kd.C k59 w A l.length l) (hc : l.length ≤ c) :
    Calls Try.prog 32 #[.slice A l.length c, .func (.func 31) #[] #[]] w fun e w' => e = .returned (.bool (l.any oddP)) ∧ Below w.heap.size w w' := by
  have hi : decide (0 ≤ idxOdd l) = l.any oddP := by
    unfold idxOdd
    cases h : l.findIdx? oddP with
    | none =>
      rw [List.findIdx?_eq_none_iff] at h
      simp only [Int.reduceNeg, Int.reduceLE, decide_false]
      exact (List.any_eq_false.2 (fun x hx => by simp [h x hx])).symm
    | some i =>
      rw [List.findIdx?_eq_some_iff_getElem] at h
      obtain ⟨hi, ho, _⟩ := h
      simp only [Int.natCast_nonneg, decide_true]
      exact (List.any_eq_true.2 ⟨l[i], List.getElem_mem hi, ho⟩).symm
  have HI := Aside0.mk hi
  have hcon := Aside0.mk (idx42 A c l w hr hc)
  clear hi hr
  go_enter Try.func32, Try.ntmps32
  go_wp2_with (fail)
  refine hcon.out.mono ?_
  rintro e w1 ⟨rfl, hb⟩
  generalize hx : idxOdd l = x at *
  go_wp2
  go_ret
  exact ⟨ret_bool HI.out, hb⟩
theorem valid11 (A : Option Addr) (c : Nat) (l : List S59) (w : World) (hr : Kd.C k59 w A l.length l) (hc : l.length ≤ c) :
    Calls Try.prog 11 #[.slice A l.length c] w fun e w' => e = .returned (.bool (validL l)) ∧ Below w.heap.size w w' := by
  have hl : l.length ≤ 9223372036854775807 := hr.2.1
  have hcon := Aside0.mk (contains32 A c l w hr hc)
  clear hr
  by_cases h : l.length ≤ 512
  · have HV := Aside0.mk (show validL l = !l.any oddP by simp [validL, h, List.all_eq_not_any_not])
    generalize l.any oddP = b at hcon HV
    go_enter Try.func11, Try.ntmps11
    go_wp2_with (fail)
    refine hcon.out.mono ?_
    rintro e w1 ⟨rfl, hb⟩
    go_wp2
    go_ret
    exact ⟨ret_bool HV.out.symm, hb⟩
  · have HV := Aside0.mk (show validL l = false by simp [validL, h])
    go_enter Try.func11, Try.ntmps11
    go_wp2
    go_ret
    exact ⟨ret_bool HV.out.symm, Below.refl _ _⟩
end Go.Proofs.Ytckempgpaojljaa.P
end
section
/- Contracts of cost.Level and of a cluster's level: the greatest power of four within a number, -1 for none; no conditions. -/
namespace Go.Proofs.Ytckempgpaojljaa.P
set_option linter.unusedVariables false
set_option linter.unusedSimpArgs false
open Go.RowKit Go.Proofs.YtckempgpaojljaaW.PrintWords Go.Proofs.YtckempgpaojljaaW.PrintLast Go.Proofs.YtckempgpaojljaaW.PrintMore
def lv (n : Nat) : Int := if h : n = 0 then -1 else lv (n / 4) + 1
termination_by n
decreasing_by omega
theorem lv_zero : lv 0 = -1 := by unfold lv; rfl
theorem lv_pos (n : Nat) (h : 0 < n) : lv n = lv (n / 4) + 1 := by
  rw [lv]
  rw [dif_neg (by omega)]
theorem lv_bd : ∀ n : Nat, -1 ≤ lv n ∧ lv n ≤ n := fun n => by
  induction n using Nat.strongRecOn with
  | _ n ih =>
    rcases Nat.eq_zero_or_pos n with rfl | h
    · rw [lv_zero]; omega
    · have := ih (n / 4) (by omega)
      rw [lv_pos n h]
      omega
theorem lv_lt (k n : Nat) (h : n < 4 ^ k) : lv n < k := by
  induction k generalizing n with
  | zero =>
    obtain rfl : n = 0 := by simpa using h
    rw [lv_zero]; decide
  | succ k ih =>
    rcases Nat.eq_zero_or_pos n with rfl | hn
    · rw [lv_zero]; omega
    · have := ih (n / 4) (by rw [Nat.pow_succ] at h; omega)
      rw [lv_pos n hn]
      omega
theorem level25 (n : Int) (w : World) (h0 : n ≤ 9223372036854775807) : Calls Try.prog 25 #[.int .i64 n] w fun e w' => e = .returned (.int .i64 (lv n.toNat)) ∧ w = w' := by
  go_enter Try.func25, Try.ntmps25
  go_wp2
  go_loop [3, 0] (fun k n' => ∃ (m : Int) (j : Int), m ≤ 9223372036854775807 ∧ -1 ≤ j ∧ j ≤ 9223372036854775800 ∧ n' = .int .i64 m ∧ k = .int .i64 j ∧ Aside0 (j + 1 + lv m.toNat = lv n.toNat)) (fun _ n' => (intOf n').toNat)
  case atStart => exact ⟨n, -1, h0, by omega, by omega, rfl, rfl, ⟨by omega⟩⟩
  case round =>
    obtain ⟨m, j, hm, hj0, hj1, rfl, rfl, HL⟩ := hrel
    by_cases hp : 0 < m
    · have hj2 : j ≤ 9223372036854775799 := by
        have := HL.out
        have b1 := lv_bd m.toNat
        have b2 := lv_lt 32 n.toNat (by omega)
        rw [lv_pos _ (by omega)] at this
        have b3 := lv_bd (m.toNat / 4)
        omega
      go_wp2
      go_round
      case rel => exact ⟨m / 4, j + 1, by omega, by omega, by omega, rfl, rfl, ⟨by
        have h := HL.out
        rw [lv_pos m.toNat (by omega)] at h
        have e : (m / 4).toNat = m.toNat / 4 := by omega
        rw [e]
        omega⟩⟩
      case measure => simp [intOf]; omega
    · go_wp2
      go_ret
      have h := HL.out
      have e : m.toNat = 0 := by omega
      rw [e, lv_zero] at h
      exact ⟨ret_int (by omega), rfl⟩
end Go.Proofs.Ytckempgpaojljaa.P
end
section
/- The clusters of a choice in memory: a linked list of nodes, by places; what keeps it and what changes it. Plain lemmas on worlds, and a cluster's level. -/
namespace Go.Proofs.Ytckempgpaojljaa.P
set_option linter.unusedVariables false
set_option linter.unusedSimpArgs false
open Go.RowKit Go.Proofs.YtckempgpaojljaaW.PrintWords Go.Proofs.YtckempgpaojljaaW.PrintLast Go.Proofs.YtckempgpaojljaaW.PrintMore
structure Nd where
  b : Nat
  v : Value
  at_ : List Int
  nm : Int
def ptr (xs : List Nd) (i : Nat) : Option Addr := (xs[i]?).map fun y => ⟨y.b, 0, none⟩
structure LL (W : World) (n0 : Nat) (xs : List Nd) : Prop where
  lo : ∀ (i : Nat) (x : Nd), xs[i]? = some x → n0 ≤ x.b
  blk : ∀ (i : Nat) (x : Nd), xs[i]? = some x → W.heap[x.b]? = some (.cells #[x.v, .int .i64 x.nm, .pointer (ptr xs (i + 1))] 81 (0, 0))
  row : ∀ (i : Nat) (x : Nd), xs[i]? = some x → Kd.R (Kd.int .i64) 3 W n0 (fun k => x.v.ownBlock = some k) x.v x.at_
  ne : ∀ (i j : Nat) (x y : Nd), i < j → xs[i]? = some x → xs[j]? = some y → x.b ≠ y.b ∧ NeRow x.v y.v
theorem hq_cell {W : World} {b : Nat} {cs : Array Value} {t : TypeId} {fr : Nat × Nat} (h : W.heap[b]? = some (.cells cs t fr)) (j : Nat) (v : Value) (hj : cs[j]? = some v) : W.cell? ⟨b, j, none⟩ = some v := by
  simp [World.cell?, h, hj]
theorem blk_free {W : World} {b : Nat} {cs : Array Value} {t : TypeId} (h : W.heap[b]? = some (.cells cs t (0, 0))) (j : Nat) : W.frozen? ⟨b, j, none⟩ = false := by
  simp [World.frozen?, h]
theorem hq_lt {W : World} {b : Nat} {o : Obj} (h : W.heap[b]? = some o) : b < W.heap.size := (Array.getElem?_eq_some_iff.1 h).1
section
variable {W W' : World} {n0 : Nat} {xs : List Nd}
theorem LL.move (h : LL W n0 xs) (hm : ∀ k, n0 ≤ k → k < W.heap.size → W'.heap[k]? = W.heap[k]?) : LL W' n0 xs where
  lo := h.lo
  blk := fun i x hx => by rw [hm _ (h.lo i x hx) (hq_lt (h.blk i x hx))]; exact h.blk i x hx
  row := fun i x hx => Kd.R_mono (Kd.R_move (Kd.R_bound (h.row i x hx)) (fun k hk => hm k hk.2.1 hk.2.2.1)) (fun _ hk => hk.1)
  ne := h.ne
theorem LL.below (h : LL W n0 xs) (hb : Below W.heap.size W W') : LL W' n0 xs := h.move (fun k _ hk => hb.block k hk)
theorem LL.lt (h : LL W n0 xs) (i : Nat) (x : Nd) (hx : xs[i]? = some x) : x.b < W.heap.size := hq_lt (h.blk i x hx)
theorem LL.far (h : LL W n0 xs) (g : Nat) (cs : Array Value) (t : TypeId) (hg : W.heap[g]? = some (.cells cs t (0, 0))) (h1 : t ≠ 81) (h3 : t ≠ 3) (j : Nat) (u : Value) : LL (W.setCell ⟨g, j, none⟩ u) n0 xs where
  lo := h.lo
  blk := fun i x hx => by
    have hb := h.blk i x hx
    rw [Below.heap_setCell _ _ _ _ (by rintro rfl; rw [hb] at hg; injection hg with hg; injection hg with _ hg; exact h1 hg.symm)]
    exact hb
  row := fun i x hx => Kd.R_set (h.row i x hx) hg (by intro q hq; have : q = 3 := by simpa [Kd.int, Kd.scalar] using hq
                                                      subst this; exact h3.symm) j u
  ne := h.ne
end
theorem heap_set_same (w : World) (g j : Nat) (u : Value) (cs : Array Value) (t : TypeId) (h : w.heap[g]? = some (.cells cs t (0, 0))) : (w.setCell ⟨g, j, none⟩ u).heap[g]? = some (.cells (cs.setIfInBounds j u) t (0, 0)) := by
  have hlt := hq_lt h
  simp only [World.setCell, Array.getElem?_modify, if_pos rfl, h]
  rfl
theorem level59 (x : Nd) (xs : List Nd) (i : Nat) (n0 : Nat) (w : World) (h : LL w n0 xs) (hx : xs[i]? = some x) (hn : x.nm ≤ 9223372036854775807) :
    Calls Try.prog 59 #[.pointer (some ⟨x.b, 0, none⟩)] w fun e w' => e = .returned (.int .i64 (lv x.nm.toNat)) ∧ w = w' := by
  have hc : w.cell? ⟨x.b, 1, none⟩ = some (.int .i64 x.nm) := hq_cell (h.blk i x hx) 1 _ rfl
  have hcon := Aside0.mk (level25 x.nm w hn)
  clear h hx
  generalize lv x.nm.toNat = r at hcon ⊢
  go_enter Try.func59, Try.ntmps59
  go_wp2_with (fail)
  refine hcon.out.mono ?_
  rintro e w1 ⟨rfl, rfl⟩
  go_wp2
  go_ret
  exact ⟨rfl, rfl⟩
end Go.Proofs.Ytckempgpaojljaa.P
end
section
/- The contract of (*choice).drop: the node at a place behind the first is taken out of the linked list. -/
namespace Go.Proofs.Ytckempgpaojljaa.P
set_option linter.unusedVariables false
set_option linter.unusedSimpArgs false
open Go.RowKit Go.Proofs.YtckempgpaojljaaW.PrintWords Go.Proofs.YtckempgpaojljaaW.PrintLast Go.Proofs.YtckempgpaojljaaW.PrintMore
theorem sz81 : (Try.prog.info? 81).map (fun i => i.size) = some 3 := by kernel_rfl
theorem eq77_same (W : World) (a : Addr) : (binOp .eql 77 (.pointer (some a)) (.pointer (some a))).run Try.prog W = .ok (.bool true) W := by
  obtain ⟨j, hj, _⟩ := Option.map_eq_some_iff.1 sz81
  exact run_eql_ptr_same W a Try.underlying77 hj
theorem eq77_other (W : World) {a b : Addr} {ca cb : Array Value} {ta tb : TypeId} (hne : a ≠ b) (ha : W.heap[a.block]? = some (.cells ca ta (0, 0))) (hb : W.heap[b.block]? = some (.cells cb tb (0, 0))) :
    (binOp .eql 77 (.pointer (some a)) (.pointer (some b))).run Try.prog W = .ok (.bool false) W := by
  obtain ⟨j, hj, hs⟩ := Option.map_eq_some_iff.1 sz81
  exact run_eql_ptr_other W Try.underlying77 hj (by omega) hne ha hb
theorem ptr_at {xs : List Nd} {i : Nat} {x : Nd} (h : xs[i]? = some x) : ptr xs i = some ⟨x.b, 0, none⟩ := by simp [ptr, h]
set_option maxHeartbeats 400000 in
set_option maxRecDepth 100000 in
theorem drop63 (gC : Nat) (xs : List Nd) (j : Nat) (y x : Nd) (n0 : Nat) (w : World) (h : LL w n0 xs) (hy : xs[j]? = some y) (hx : xs[j + 1]? = some x)
    (hC : w.heap[gC]? = some (.cells #[.pointer (ptr xs 0)] 79 (0, 0))) :
    Calls Try.prog 63 #[.pointer (some ⟨gC, 0, none⟩), .pointer (some ⟨x.b, 0, none⟩)] w fun e w' => e = .returned (.tuple #[]) ∧ w.setCell ⟨y.b, 2, none⟩ (.pointer (ptr xs (j + 2))) = w' := by
  have hc0 : w.cell? ⟨gC, 0, none⟩ = some (.pointer (ptr xs 0)) := hq_cell hC 0 _ rfl
  have hcx : w.cell? ⟨x.b, 2, none⟩ = some (.pointer (ptr xs (j + 2))) := hq_cell (h.blk _ x hx) 2 _ rfl
  have hfy : w.frozen? ⟨y.b, 2, none⟩ = false := blk_free (h.blk _ y hy) 2
  have HL := Aside0.mk h
  have HX := Aside0.mk hx
  have HY := Aside0.mk hy
  clear h hx hy hC
  go_enter Try.func63, Try.ntmps63
  go_wp2
  go_loopg [4] j (fun gk v4 w' => ∃ i : Nat, Aside0 (i + gk = j) ∧ v4 = .pointer (ptr xs i) ∧ w' = w)
  case atStart => exact ⟨0, ⟨by omega⟩, rfl, rfl⟩
  case round =>
    obtain ⟨i, HI, rfl, rfl⟩ := hrel
    have hi' : i ≤ j := by have := HI.out; omega
    obtain ⟨z, hz⟩ : ∃ z, xs[i]? = some z := by
      have := (List.getElem?_eq_some_iff.1 HX.out).1
      exact ⟨_, List.getElem?_eq_getElem (show i < xs.length by omega)⟩
    have hp := ptr_at hz
    have hcz : wr.cell? ⟨z.b, 2, none⟩ = some (.pointer (ptr xs (i + 1))) := hq_cell (HL.out.blk _ z hz) 2 _ rfl
    have HZ := Aside0.mk hz
    clear hz
    rw [hp]
    clear hp
    by_cases hij : i = j
    · obtain rfl : i = j := hij
      clear hi'
      obtain rfl : y = z := by have := HY.out.symm.trans HZ.out; injection this
      rw [ptr_at HX.out] at hcz
      have heq := eq77_same wr ⟨x.b, 0, none⟩
      go_wp2
      refine bodyPost_ret (results_none rfl _ _ _) rfl ⟨rfl, rfl⟩
    · obtain ⟨z', hz'⟩ : ∃ z', xs[i + 1]? = some z' := by
        have := (List.getElem?_eq_some_iff.1 HX.out).1
        exact ⟨_, List.getElem?_eq_getElem (show i + 1 < xs.length by omega)⟩
      rw [ptr_at hz'] at hcz
      have heq := eq77_other wr (a := ⟨z'.b, 0, none⟩) (b := ⟨x.b, 0, none⟩) (by
        have := (HL.out.ne (i + 1) (j + 1) z' x (by omega) hz' HX.out).1
        intro e
        injection e with e
        exact this e) (HL.out.blk _ z' hz') (HL.out.blk _ x HX.out)
      have HZ' := Aside0.mk hz'
      clear hz'
      have hij' : i < j := by omega
      clear hij hi'
      obtain ⟨gk, rfl⟩ : ∃ m, gk = m + 1 := ⟨gk - 1, by have := HI.out; omega⟩
      go_wp2
      go_roundg gk
      case measure => omega
      case rel => exact ⟨i + 1, ⟨by have := HI.out; omega⟩, by rw [ptr_at HZ'.out], rfl⟩
theorem ptr_erase {xs : List Nd} {j : Nat} (i : Nat) (hi : i ≤ j) : ptr (xs.eraseIdx j) i = if i < j then ptr xs i else ptr xs (i + 1) := by
  simp only [ptr, List.getElem?_eraseIdx]
  split <;> rfl
theorem ptr_erase_ge {xs : List Nd} {j : Nat} (i : Nat) (hi : j ≤ i) : ptr (xs.eraseIdx j) i = ptr xs (i + 1) := by
  simp only [ptr, List.getElem?_eraseIdx]
  rw [if_neg (by omega)]
theorem LL.dropped {W : World} {n0 : Nat} {xs : List Nd} {j : Nat} {y x : Nd} (h : LL W n0 xs) (hy : xs[j]? = some y) (hx : xs[j + 1]? = some x) :
    LL (W.setCell ⟨y.b, 2, none⟩ (.pointer (ptr xs (j + 2)))) n0 (xs.eraseIdx (j + 1)) := by
  have hyb := h.blk _ y hy
  have old : ∀ (i : Nat) (z : Nd), (xs.eraseIdx (j + 1))[i]? = some z → ∃ i', xs[i']? = some z ∧ (i' = if i < j + 1 then i else i + 1) := fun i z hz => by
    rw [List.getElem?_eraseIdx] at hz
    refine ⟨if i < j + 1 then i else i + 1, ?_, rfl⟩
    by_cases hc : i < j + 1
    · rw [if_pos hc] at hz ⊢; exact hz
    · rw [if_neg hc] at hz ⊢; exact hz
  refine ⟨fun i z hz => ?_, fun i z hz => ?_, fun i z hz => ?_, fun i k z u hik hz hu => ?_⟩
  · obtain ⟨i', hi', _⟩ := old i z hz
    exact h.lo i' z hi'
  · obtain ⟨i', hi', e⟩ := old i z hz
    by_cases hij : i = j
    · subst hij
      rw [if_pos (by omega)] at e
      subst e
      obtain rfl : y = z := by rw [hy] at hi'; injection hi'
      rw [ptr_erase_ge (i' + 1) (by omega)]
      have := heap_set_same W y.b 2 (.pointer (ptr xs (i' + 2))) _ _ hyb
      simpa using this
    · have hne : z.b ≠ y.b := by
        rcases Nat.lt_or_ge i' j with hl | hl
        · exact (h.ne i' j z y hl hi' hy).1
        · have hl' : j < i' := by split at e <;> omega
          exact (h.ne j i' y z hl' hy hi').1.symm
      rw [Below.heap_setCell _ _ _ _ hne, h.blk i' z hi']
      congr 4
      split at e
      · subst e
        rw [ptr_erase _ (by omega), if_pos (by omega)]
      · subst e
        rw [ptr_erase_ge _ (by omega)]
  · obtain ⟨i', hi', _⟩ := old i z hz
    exact Kd.R_set (h.row i' z hi') hyb (by
      intro q hq
      have : q = 3 := by simpa [Kd.int, Kd.scalar] using hq
      omega) _ _
  · obtain ⟨i', hi', e⟩ := old i z hz
    obtain ⟨k', hk', e'⟩ := old k u hu
    exact h.ne i' k' z u (by split at e <;> split at e' <;> omega) hi' hk'
end Go.Proofs.Ytckempgpaojljaa.P
end
section
/- The contract of (*cluster).take: the row and the number of another node are added to a node's. -/
namespace Go.Proofs.Ytckempgpaojljaa.P
set_option linter.unusedVariables false
set_option linter.unusedSimpArgs false
open Go.RowKit Go.Proofs.YtckempgpaojljaaW.PrintWords Go.Proofs.YtckempgpaojljaaW.PrintLast Go.Proofs.YtckempgpaojljaaW.PrintMore
def take62.T0 : Bool × List (List Nat × List Nat) := (true, [([], []), ([], []), ([1], [1]), ([2], [2]), ([3], [3]), ([], []), ([5], [5]), ([6], [6]), ([7], [7]), ([4, 8], [4, 8]), ([0, 0, 1, 2, 3, 4, 5, 6, 7, 8, 9], [0]), ([10, 0, 1, 2, 3, 4, 5, 6, 7, 8, 9], [10]), ([11, 9, 9, 0, 1, 2, 3, 4, 5, 6, 7, 8, 9], [9, 11])])
def take62.B0 : List Nat := [0, 0, 2, 6, 14, 0, 32, 96, 224, 510, 1023, 2047, 4095]
theorem take62.tab0 : rtab .any (opsOf Try.f62 0) = take62.T0 := by kernel_rfl
theorem take62.bits0 : waitsOk take62.T0.2 take62.B0 = true := by kernel_rfl
def take62.T1 : Bool × List (List Nat × List Nat) := (true, [([], []), ([0], [0]), ([1], [1]), ([2], [2]), ([], []), ([4], [4]), ([5], [5]), ([6], [6]), ([3, 7], [3, 7]), ([0, 0, 1, 2, 3, 4, 5, 6, 7, 8], [0]), ([9, 0, 1, 2, 3, 4, 5, 6, 7, 8], [9]), ([10, 8, 0, 1, 2, 3, 4, 5, 6, 7, 8], [8, 10])])
def take62.B1 : List Nat := [0, 1, 3, 7, 0, 16, 48, 112, 255, 511, 1023, 2047]
theorem take62.tab1 : rtab .any (opsOf Try.f62 1) = take62.T1 := by kernel_rfl
theorem take62.bits1 : waitsOk take62.T1.2 take62.B1 = true := by kernel_rfl
theorem row_int {W : World} {n0 : Nat} {ok : Nat → Prop} {v : Value} {xs : List Int} (h : Kd.R (Kd.int .i64) 3 W n0 ok v xs) : ∃ A c, v = .slice A xs.length c ∧ xs.length ≤ c ∧ Kd.C (Kd.int .i64) W A xs.length xs := Kd.R_reads h
set_option maxHeartbeats 800000 in
set_option maxRecDepth 100000 in
theorem take62.calls (xs : List Nd) (i j : Nat) (x y : Nd) (n0 : Nat) (w : World) (h : LL w n0 xs) (hij : i < j) (hx : xs[i]? = some x) (hy : xs[j]? = some y)
    (hlen : x.at_.length + y.at_.length ≤ 100000) (hs : 0 ≤ x.nm ∧ x.nm ≤ 100000000 ∧ 0 ≤ y.nm ∧ y.nm ≤ 100000000) (hn0 : n0 ≤ w.heap.size) :
    Calls Try.prog 62 #[.pointer (some ⟨x.b, 0, none⟩), .pointer (some ⟨y.b, 0, none⟩)] w fun e w' => e = .returned (.tuple #[]) ∧
      ∃ v w1, w.drew.grownBy w1 x.v.ownBlock ∧ (v.ownBlock = x.v.ownBlock ∨ ∃ b, v.ownBlock = some b ∧ w.heap.size ≤ b) ∧ Kd.R (Kd.int .i64) 3 w1 n0 (fun k => v.ownBlock = some k) v (x.at_ ++ y.at_) ∧
        w' = ((w1.setCell ⟨x.b, 0, none⟩ v).drew).setCell ⟨x.b, 1, none⟩ (.int .i64 (x.nm + y.nm)) := by
  have hxb := h.blk i x hx
  have hyb := h.blk j y hy
  have hne := (h.ne i j x y hij hx hy).1
  have hnr := (h.ne i j x y hij hx hy).2
  have hrx := h.row i x hx
  have hry := h.row j y hy
  obtain ⟨b1, b2, b3, b4⟩ := hs
  obtain ⟨Ax, cx, ex, lx, rx⟩ := row_int hrx
  obtain ⟨Ay, cy, ey, ly, ry⟩ := row_int hry
  have hrd : w.drew.heap = w.heap := rfl
  clear h
  have EX := Aside0.mk ex
  have EY := Aside0.mk ey
  have HX := Aside0.mk hxb
  have HY := Aside0.mk hyb
  have HRX := Aside0.mk hrx
  have HRY := Aside0.mk ry
  have HN := Aside0.mk hne
  have HL := Aside0.mk hlen
  have HNR := Aside0.mk hnr
  clear hxb hyb hrx hry rx ry ex ey hne hlen hnr hrd
  go_enter Try.func62, Try.ntmps62
  go_wp2
  refine start_ (n := 13) (S := fun w' => w'.cell? ⟨x.b, 0, none⟩ = some x.v ∧ w'.cell? ⟨y.b, 0, none⟩ = some y.v) (ds := [12]) #[false, false, false, false, false, false, false, false, false, false, false, false, false] (by kernel_rfl) rfl rfl ⟨hq_cell (W := w.drew) HX.out 0 _ rfl, hq_cell (W := w.drew) HY.out 0 _ rfl⟩ (fun hHeld => ?_); refine with_tabW take62.tab0 take62.bits0 (fun HT_ HW_ => ?_)
  refine pure_ (i := 0) (N := some 4) (v := ?_) (a' := ?_) #[true, false, false, false, false, false, false, false, false, false, false, false, false] rfl rfl (any_of HT_.out (by kernel_rfl)) (fun _ _ _ h => h) (Or.inl ⟨by rfl, ?_⟩) ?_ ?_
  rotate_left
  · intro w'; go_simp; with_reducible rfl
  rotate_left
  · simp only [Act.put, List.setIfInBounds_toArray, List.set_cons_zero, List.set_cons_succ, i64_w, i32_w]; rfl
  refine pure_ (i := 1) (N := some 5) (v := ?_) (a' := ?_) #[true, true, false, false, false, false, false, false, false, false, false, false, false] rfl rfl (any_of HT_.out (by kernel_rfl)) (fun _ _ _ h => h) (Or.inl ⟨by rfl, ?_⟩) ?_ ?_
  rotate_left
  · intro w'; go_simp; with_reducible rfl
  rotate_left
  · simp only [Act.put, List.setIfInBounds_toArray, List.set_cons_zero, List.set_cons_succ, i64_w, i32_w]; rfl
  refine pure_ (i := 2) (N := some 6) (v := ?_) (a' := ?_) #[true, true, true, false, false, false, false, false, false, false, false, false, false] rfl rfl (any_of HT_.out (by kernel_rfl)) (fun _ _ _ h => h) (Or.inl ⟨by rfl, ?_⟩) ?_ ?_
  rotate_left
  · intro w'; go_simp; with_reducible rfl
  rotate_left
  · simp only [Act.put, List.setIfInBounds_toArray, List.set_cons_zero, List.set_cons_succ, i64_w, i32_w]; rfl
  refine pure_ (i := 3) (N := some 7) (v := ?_) (a' := ?_) #[true, true, true, true, false, false, false, false, false, false, false, false, false] rfl rfl (any_of HT_.out (by kernel_rfl)) (fun _ _ _ h => h) (Or.inl ⟨by rfl, ?_⟩) ?_ ?_
  rotate_left
  · intro w'; go_simp; with_reducible rfl
  rotate_left
  · simp only [Act.put, List.setIfInBounds_toArray, List.set_cons_zero, List.set_cons_succ, i64_w, i32_w]; rfl
  refine pure_ (i := 5) (N := some 9) (v := ?_) (a' := ?_) #[true, true, true, true, false, true, false, false, false, false, false, false, false] rfl rfl (any_of HT_.out (by kernel_rfl)) (fun _ _ _ h => h) (Or.inl ⟨by rfl, ?_⟩) ?_ ?_
  rotate_left
  · intro w'; go_simp; with_reducible rfl
  rotate_left
  · simp only [Act.put, List.setIfInBounds_toArray, List.set_cons_zero, List.set_cons_succ, i64_w, i32_w]; rfl
  refine pure_ (i := 6) (N := some 10) (v := ?_) (a' := ?_) #[true, true, true, true, false, true, true, false, false, false, false, false, false] rfl rfl (any_of HT_.out (by kernel_rfl)) (fun _ _ _ h => h) (Or.inl ⟨by rfl, ?_⟩) ?_ ?_
  rotate_left
  · intro w'; go_simp; with_reducible rfl
  rotate_left
  · simp only [Act.put, List.setIfInBounds_toArray, List.set_cons_zero, List.set_cons_succ, i64_w, i32_w]; rfl
  refine pure_ (i := 7) (N := some 11) (v := ?_) (a' := ?_) #[true, true, true, true, false, true, true, true, false, false, false, false, false] rfl rfl (any_of HT_.out (by kernel_rfl)) (fun _ _ _ h => h) (Or.inl ⟨by rfl, ?_⟩) ?_ ?_
  rotate_left
  · intro w'; go_simp; with_reducible rfl
  rotate_left
  · simp only [Act.put, List.setIfInBounds_toArray, List.set_cons_zero, List.set_cons_succ, i64_w, i32_w]; rfl
  refine take_ (i := 4) (N := some 8) (v := ?_) (a' := ?_) #[true, true, true, true, true, true, true, true, false, false, false, false, false] rfl rfl (take_ofW HT_.out HW_.out (by kernel_rfl)) (fun _ _ _ h => h) (Or.inl ⟨by rfl, ?_⟩) hHeld ?_ ?_
  rotate_left
  · rintro w' ⟨s0, s1⟩; go_simp; with_reducible rfl
  rotate_left
  · simp only [Act.put, List.setIfInBounds_toArray, List.set_cons_zero, List.set_cons_succ, i64_w, i32_w]; rfl
  refine take_ (i := 8) (N := some 12) (v := ?_) (a' := ?_) #[true, true, true, true, true, true, true, true, true, false, false, false, false] rfl rfl (take_ofW HT_.out HW_.out (by kernel_rfl)) (fun _ _ _ h => h) (Or.inl ⟨by rfl, ?_⟩) hHeld ?_ ?_
  rotate_left
  · rintro w' ⟨s0, s1⟩; go_simp; with_reducible rfl
  rotate_left
  · simp only [Act.put, List.setIfInBounds_toArray, List.set_cons_zero, List.set_cons_succ, i64_w, i32_w]; rfl
  refine one_ (i := 9) (N := some 13) #[true, true, true, true, true, true, true, true, true, true, false, false, false] rfl rfl (one_of HT_.out (by kernel_rfl)) (by decide) (fun K hK => ?_)
  refine Kd.R_append_rows_step (Kd.int .i64) (Rr := fun x cs => cs = [Value.int .i64 x]) (w0 := w.drew) n0 (by rfl) (.tmp 8) (.tmp 12) 26 3 (.int .i64 0) 8 rfl Try.underlying26 info3 rfl (by decide) (by decide) x.v x.at_ y.at_ Ay y.at_.length cy (fun _ => True) (fun _ => False) rfl EY.out (Kd.R_mono (Kd.R_below HRX.out (Below.refl _ _).drew) (fun _ _ => trivial)) (Kd.C_below HRY.out (Below.refl _ _).drew) (fun _ _ h => h) (fun _ h => h.elim) (fun _ _ => trivial) (Below.refl _ _) hn0 (by have := HL.out; omega) ?_
  intro v1 w1 ho hB hg hat
  have hx1 : w1.heap[x.b]? = some (.cells #[x.v, .int .i64 x.nm, .pointer (ptr xs (i + 1))] 81 (0, 0)) := (hg.block x.b (hq_lt (W := w.drew) HX.out) (Kd.R_ne HRX.out HX.out (by decide))).trans HX.out
  have hy1 : w1.heap[y.b]? = some (.cells #[y.v, .int .i64 y.nm, .pointer (ptr xs (j + 1))] 81 (0, 0)) := (hg.block y.b (hq_lt (W := w.drew) HY.out) (Kd.R_ne HRX.out HY.out (by decide))).trans HY.out
  have HX1 := Aside0.mk hx1
  have HY1 := Aside0.mk hy1
  have HO := Aside0.mk ho
  have HG := Aside0.mk hg
  have HAT := Aside0.mk hat
  clear hx1 hy1 ho hB hg hat
  refine hK.out _ _ ⟨hq_cell HX1.out 0 _ rfl, hq_cell HY1.out 0 _ rfl⟩ (fun hHeld => ?_)
  clear hK K
  refine norm_ (a' := ?_) ?_ ?_
  rotate_left
  · show Act.put _ (some 13) _ = _; simp only [Act.put, List.setIfInBounds_toArray, List.set_cons_zero, List.set_cons_succ, i64_w, i32_w]; rfl
  refine pure_ (i := 10) (N := some 14) (v := ?_) (a' := ?_) #[true, true, true, true, true, true, true, true, true, true, true, false, false] rfl rfl (any_of HT_.out (by kernel_rfl)) (fun _ _ _ h => h) (Or.inl ⟨by rfl, ?_⟩) ?_ ?_
  rotate_left
  · intro w'; go_simp; with_reducible rfl
  rotate_left
  · simp only [Act.put, List.setIfInBounds_toArray, List.set_cons_zero, List.set_cons_succ, i64_w, i32_w]; rfl
  refine pure_ (i := 11) (N := some 15) (v := ?_) (a' := ?_) #[true, true, true, true, true, true, true, true, true, true, true, true, false] rfl rfl (any_of HT_.out (by kernel_rfl)) (fun _ _ _ h => h) (Or.inl ⟨by rfl, ?_⟩) ?_ ?_
  rotate_left
  · intro w'; go_simp; with_reducible rfl
  rotate_left
  · simp only [Act.put, List.setIfInBounds_toArray, List.set_cons_zero, List.set_cons_succ, i64_w, i32_w]; rfl
  refine last_ (i := 12) (N := none) #[true, true, true, true, true, true, true, true, true, true, true, true, true] rfl rfl (one_of HT_.out (by kernel_rfl)) (by decide) (fun K hK => ?_)
  have hc0 := hq_cell HX1.out 0 _ rfl
  have hf0 := blk_free HX1.out 0
  refine skip_ (w1 := w1.setCell ⟨x.b, 0, none⟩ v1) (by rfl) rfl ?_ ?_
  · obtain ⟨A1, c1, rfl, _⟩ := row_int HO.out
    first | (go_simp; done) | (go_simp; rfl)
  clear hc0 hf0
  refine hK.out _ _ ?_
  clear hK K
  refine done_ (done_of HT_.out (by kernel_rfl)) ?_
  have hx2 : (w1.setCell ⟨x.b, 0, none⟩ v1).heap[x.b]? = some (.cells #[v1, .int .i64 x.nm, .pointer (ptr xs (i + 1))] 81 (0, 0)) := by
    have := heap_set_same w1 x.b 0 v1 _ _ HX1.out
    simpa using this
  have hy2 : (w1.setCell ⟨x.b, 0, none⟩ v1).heap[y.b]? = some (.cells #[y.v, .int .i64 y.nm, .pointer (ptr xs (j + 1))] 81 (0, 0)) := by
    rw [Below.heap_setCell _ _ _ _ (fun e => HN.out e.symm)]
    exact HY1.out
  have HX2 := Aside0.mk hx2
  have HY2 := Aside0.mk hy2
  clear hx2 hy2
  generalize hw2 : w1.setCell ⟨x.b, 0, none⟩ v1 = w2 at HX2 HY2 ⊢
  have HW2 := Aside0.mk hw2
  clear hw2
  go_wp2
  refine start_ (n := 12) (S := fun w' => w'.cell? ⟨x.b, 1, none⟩ = some (.int .i64 x.nm) ∧ w'.cell? ⟨y.b, 1, none⟩ = some (.int .i64 y.nm)) (ds := [11]) #[false, false, false, false, false, false, false, false, false, false, false, false] (by kernel_rfl) rfl rfl ⟨hq_cell (W := w2.drew) HX2.out 1 _ rfl, hq_cell (W := w2.drew) HY2.out 1 _ rfl⟩ (fun hHeld => ?_); refine with_tabW take62.tab1 take62.bits1 (fun HT_ HW_ => ?_)
  refine pure_ (i := 0) (N := some 16) (v := ?_) (a' := ?_) #[true, false, false, false, false, false, false, false, false, false, false, false] rfl rfl (any_of HT_.out (by kernel_rfl)) (fun _ _ _ h => h) (Or.inl ⟨by rfl, ?_⟩) ?_ ?_
  rotate_left
  · intro w'; go_simp; with_reducible rfl
  rotate_left
  · simp only [Act.put, List.setIfInBounds_toArray, List.set_cons_zero, List.set_cons_succ, i64_w, i32_w]; rfl
  refine pure_ (i := 1) (N := some 17) (v := ?_) (a' := ?_) #[true, true, false, false, false, false, false, false, false, false, false, false] rfl rfl (any_of HT_.out (by kernel_rfl)) (fun _ _ _ h => h) (Or.inl ⟨by rfl, ?_⟩) ?_ ?_
  rotate_left
  · intro w'; go_simp; with_reducible rfl
  rotate_left
  · simp only [Act.put, List.setIfInBounds_toArray, List.set_cons_zero, List.set_cons_succ, i64_w, i32_w]; rfl
  refine pure_ (i := 2) (N := some 18) (v := ?_) (a' := ?_) #[true, true, true, false, false, false, false, false, false, false, false, false] rfl rfl (any_of HT_.out (by kernel_rfl)) (fun _ _ _ h => h) (Or.inl ⟨by rfl, ?_⟩) ?_ ?_
  rotate_left
  · intro w'; go_simp; with_reducible rfl
  rotate_left
  · simp only [Act.put, List.setIfInBounds_toArray, List.set_cons_zero, List.set_cons_succ, i64_w, i32_w]; rfl
  refine pure_ (i := 4) (N := some 20) (v := ?_) (a' := ?_) #[true, true, true, false, true, false, false, false, false, false, false, false] rfl rfl (any_of HT_.out (by kernel_rfl)) (fun _ _ _ h => h) (Or.inl ⟨by rfl, ?_⟩) ?_ ?_
  rotate_left
  · intro w'; go_simp; with_reducible rfl
  rotate_left
  · simp only [Act.put, List.setIfInBounds_toArray, List.set_cons_zero, List.set_cons_succ, i64_w, i32_w]; rfl
  refine pure_ (i := 5) (N := some 21) (v := ?_) (a' := ?_) #[true, true, true, false, true, true, false, false, false, false, false, false] rfl rfl (any_of HT_.out (by kernel_rfl)) (fun _ _ _ h => h) (Or.inl ⟨by rfl, ?_⟩) ?_ ?_
  rotate_left
  · intro w'; go_simp; with_reducible rfl
  rotate_left
  · simp only [Act.put, List.setIfInBounds_toArray, List.set_cons_zero, List.set_cons_succ, i64_w, i32_w]; rfl
  refine pure_ (i := 6) (N := some 22) (v := ?_) (a' := ?_) #[true, true, true, false, true, true, true, false, false, false, false, false] rfl rfl (any_of HT_.out (by kernel_rfl)) (fun _ _ _ h => h) (Or.inl ⟨by rfl, ?_⟩) ?_ ?_
  rotate_left
  · intro w'; go_simp; with_reducible rfl
  rotate_left
  · simp only [Act.put, List.setIfInBounds_toArray, List.set_cons_zero, List.set_cons_succ, i64_w, i32_w]; rfl
  refine take_ (i := 3) (N := some 19) (v := ?_) (a' := ?_) #[true, true, true, true, true, true, true, false, false, false, false, false] rfl rfl (take_ofW HT_.out HW_.out (by kernel_rfl)) (fun _ _ _ h => h) (Or.inl ⟨by rfl, ?_⟩) hHeld ?_ ?_
  rotate_left
  · rintro w' ⟨s0, s1⟩; go_simp; with_reducible rfl
  rotate_left
  · simp only [Act.put, List.setIfInBounds_toArray, List.set_cons_zero, List.set_cons_succ, i64_w, i32_w]; rfl
  refine take_ (i := 7) (N := some 23) (v := ?_) (a' := ?_) #[true, true, true, true, true, true, true, true, false, false, false, false] rfl rfl (take_ofW HT_.out HW_.out (by kernel_rfl)) (fun _ _ _ h => h) (Or.inl ⟨by rfl, ?_⟩) hHeld ?_ ?_
  rotate_left
  · rintro w' ⟨s0, s1⟩; go_simp; with_reducible rfl
  rotate_left
  · simp only [Act.put, List.setIfInBounds_toArray, List.set_cons_zero, List.set_cons_succ, i64_w, i32_w]; rfl
  refine pure_ (i := 8) (N := some 24) (v := ?_) (a' := ?_) #[true, true, true, true, true, true, true, true, true, false, false, false] rfl rfl (any_of HT_.out (by kernel_rfl)) (fun _ _ _ h => h) (Or.inl ⟨by rfl, ?_⟩) ?_ ?_
  rotate_left
  · intro w'; go_simp; with_reducible rfl
  rotate_left
  · simp only [Act.put, List.setIfInBounds_toArray, List.set_cons_zero, List.set_cons_succ, i64_w, i32_w]; rfl
  refine pure_ (i := 9) (N := some 25) (v := ?_) (a' := ?_) #[true, true, true, true, true, true, true, true, true, true, false, false] rfl rfl (any_of HT_.out (by kernel_rfl)) (fun _ _ _ h => h) (Or.inl ⟨by rfl, ?_⟩) ?_ ?_
  rotate_left
  · intro w'; go_simp; with_reducible rfl
  rotate_left
  · simp only [Act.put, List.setIfInBounds_toArray, List.set_cons_zero, List.set_cons_succ, i64_w, i32_w]; rfl
  refine pure_ (i := 10) (N := some 26) (v := ?_) (a' := ?_) #[true, true, true, true, true, true, true, true, true, true, true, false] rfl rfl (any_of HT_.out (by kernel_rfl)) (fun _ _ _ h => h) (Or.inl ⟨by rfl, ?_⟩) ?_ ?_
  rotate_left
  · intro w'; go_simp; with_reducible rfl
  rotate_left
  · simp only [Act.put, List.setIfInBounds_toArray, List.set_cons_zero, List.set_cons_succ, i64_w, i32_w]; rfl
  refine last_ (i := 11) (N := none) #[true, true, true, true, true, true, true, true, true, true, true, true] rfl rfl (one_of HT_.out (by kernel_rfl)) (by decide) (fun K hK => ?_)
  have hc0 := hq_cell (W := w2.drew) HX2.out 1 _ rfl
  have hf0 := blk_free (W := w2.drew) HX2.out 1
  refine skip_ (w1 := w2.drew.setCell ⟨x.b, 1, none⟩ (.int .i64 (wrap64 (x.nm + y.nm)))) (by rfl) rfl ?_ ?_
  · first | (go_simp; done) | (go_simp; rfl)
  clear hc0 hf0
  refine hK.out _ _ ?_
  clear hK K
  refine done_ (done_of HT_.out (by kernel_rfl)) ?_
  refine bodyPost_end (results_none rfl _ _ _) rfl ⟨rfl, v1, w1, HG.out, HAT.out, ⟨fun _ hk => hk, HO.out.2.imp_ (fun _ _ hp => hp)⟩, by rw [HW2.out, show wrap64 (x.nm + y.nm) = x.nm + y.nm by unfold wrap64; omega]⟩
theorem LL.taken {w w1 : World} {n0 : Nat} {xs : List Nd} {i j : Nat} {x y : Nd} {v : Value} (h : LL w n0 xs) (hx : xs[i]? = some x) (ys : List Int) (hg : w.drew.grownBy w1 x.v.ownBlock)
    (hat : v.ownBlock = x.v.ownBlock ∨ ∃ b, v.ownBlock = some b ∧ w.heap.size ≤ b) (hr : Kd.R (Kd.int .i64) 3 w1 n0 (fun k => v.ownBlock = some k) v (x.at_ ++ ys)) (m : Int) :
    LL (((w1.setCell ⟨x.b, 0, none⟩ v).drew).setCell ⟨x.b, 1, none⟩ (.int .i64 m)) n0 (xs.set i ⟨x.b, v, x.at_ ++ ys, m⟩) := by
  have hxb := h.blk i x hx
  have hilt : i < xs.length := (List.getElem?_eq_some_iff.1 hx).1
  have keep : ∀ (k : Nat) (z : Nd), xs[k]? = some z → w1.heap[z.b]? = w.heap[z.b]? := fun k z hz => hg.block z.b (h.lt k z hz) (Kd.R_ne (h.row i x hx) (h.blk k z hz) (by decide))
  have hx1 := (keep i x hx).trans hxb
  have hp : ∀ k, ptr (xs.set i ⟨x.b, v, x.at_ ++ ys, m⟩) k = ptr xs k := fun k => by
    simp only [ptr, List.getElem?_set]
    split
    · rename_i e
      subst e
      rw [hx]
      rfl
    · rfl
  have old : ∀ (k : Nat) (z : Nd), (xs.set i ⟨x.b, v, x.at_ ++ ys, m⟩)[k]? = some z → (k = i ∧ z = ⟨x.b, v, x.at_ ++ ys, m⟩) ∨ (k ≠ i ∧ xs[k]? = some z) := fun k z hz => by
    rw [List.getElem?_set] at hz
    by_cases e : i = k
    · rw [if_pos e, if_pos hilt] at hz
      exact .inl ⟨e.symm, by injection hz with hz; exact hz.symm⟩
    · rw [if_neg e] at hz
      exact .inr ⟨fun e' => e e'.symm, hz⟩
  have h81 : ∀ q, q ∈ 3 :: (Kd.int .i64).E → q ≠ 81 := by
    intro q hq
    have : q = 3 := by simpa [Kd.int, Kd.scalar] using hq
    omega
  have s1 : (w1.setCell ⟨x.b, 0, none⟩ v).heap[x.b]? = some (.cells #[v, .int .i64 x.nm, .pointer (ptr xs (i + 1))] 81 (0, 0)) := by
    have := heap_set_same w1 x.b 0 v _ _ hx1
    simpa using this
  have s2 : (((w1.setCell ⟨x.b, 0, none⟩ v).drew).setCell ⟨x.b, 1, none⟩ (.int .i64 m)).heap[x.b]? = some (.cells #[v, .int .i64 m, .pointer (ptr xs (i + 1))] 81 (0, 0)) := by
    have := heap_set_same (w1.setCell ⟨x.b, 0, none⟩ v).drew x.b 1 (.int .i64 m) _ _ s1
    simpa using this
  have neq : ∀ (k : Nat) (z : Nd), k ≠ i → xs[k]? = some z → z.b ≠ x.b ∧ NeRow z.v x.v := fun k z hk hz => by
    rcases Nat.lt_or_ge k i with hl | hl
    · exact h.ne k i z x hl hz hx
    · obtain ⟨e1, e2⟩ := h.ne i k x z (by omega) hx hz
      exact ⟨e1.symm, fun b hb hb' => e2 b hb' hb⟩
  have far : ∀ b, b ≠ x.b → (((w1.setCell ⟨x.b, 0, none⟩ v).drew).setCell ⟨x.b, 1, none⟩ (.int .i64 m)).heap[b]? = w1.heap[b]? := fun b hb =>
    (Below.heap_setCell _ _ _ _ hb).trans (Below.heap_setCell w1 ⟨x.b, 0, none⟩ v b hb)
  have nv : ∀ (k : Nat) (z : Nd), k ≠ i → xs[k]? = some z → NeRow z.v v := fun k z hk hz b hb hb' => by
    rcases hat with e | ⟨c, e, hc⟩
    · exact (neq k z hk hz).2 b hb (e ▸ hb')
    · rw [e] at hb'
      injection hb' with hb'
      obtain ⟨_, inner, ho, _⟩ := h.row k z hz
      have := own_lt ho b hb
      omega
  refine ⟨fun k z hz => ?_, fun k z hz => ?_, fun k z hz => ?_, fun k l z u hkl hz hu => ?_⟩
  · rcases old k z hz with ⟨_, rfl⟩ | ⟨_, hz'⟩
    · exact h.lo i x hx
    · exact h.lo k z hz'
  · rcases old k z hz with ⟨rfl, rfl⟩ | ⟨hk, hz'⟩
    · rw [hp]
      exact s2
    · rw [hp, far z.b (neq k z hk hz').1, keep k z hz']
      exact h.blk k z hz'
  · rcases old k z hz with ⟨rfl, rfl⟩ | ⟨hk, hz'⟩
    · have r1 := Kd.R_set hr hx1 h81 0 v
      exact Kd.R_set (Kd.R_below r1 (Below.refl _ _).drew) (show (w1.setCell ⟨x.b, 0, none⟩ v).drew.heap[x.b]? = _ from s1) h81 1 _
    · have r0 : Kd.R (Kd.int .i64) 3 w1 n0 (fun q => z.v.ownBlock = some q) z.v z.at_ := Kd.R_grown (Kd.R_below (h.row k z hz') (Below.refl _ _).drew) hg (fun q hq e => (neq k z hk hz').2 q hq e.symm)
      have r1 := Kd.R_set r0 hx1 h81 0 v
      exact Kd.R_set (Kd.R_below r1 (Below.refl _ _).drew) (show (w1.setCell ⟨x.b, 0, none⟩ v).drew.heap[x.b]? = _ from s1) h81 1 _
  · rcases old k z hz with ⟨rfl, rfl⟩ | ⟨hk, hz'⟩
    · rcases old l u hu with ⟨e, _⟩ | ⟨hl, hu'⟩
      · omega
      · exact ⟨(neq l u hl hu').1.symm, fun b hb hb' => nv l u hl hu' b hb' hb⟩
    · rcases old l u hu with ⟨rfl, rfl⟩ | ⟨hl, hu'⟩
      · exact ⟨(neq k z hk hz').1, nv k z hk hz'⟩
      · exact h.ne k l z u hkl hz' hu'
end Go.Proofs.Ytckempgpaojljaa.P
end
section
/- slices.IndexFunc over numbers with the closure 'at least four', and what is known of the first place. -/
namespace Go.Proofs.Ytckempgpaojljaa.P
set_option linter.unusedVariables false
set_option linter.unusedSimpArgs false
open Go.RowKit Go.Proofs.YtckempgpaojljaaW.PrintWords Go.Proofs.YtckempgpaojljaaW.PrintLast Go.Proofs.YtckempgpaojljaaW.PrintMore
theorem four61 (n : Int) (w : World) : Calls Try.prog 61 #[.int .i64 n] w fun e w' => e = .returned (.bool (decide (4 ≤ n))) ∧ w = w' := by
  go_enter Try.func61, Try.ntmps61
  go_wp2
  go_ret
  exact ⟨rfl, rfl⟩
theorem four61T (n : Int) (w : World) (h : 4 ≤ n) : Calls Try.prog 61 #[.int .i64 n] w fun e w' => e = .returned (.bool true) ∧ w = w' := decide_eq_true h ▸ four61 n w
theorem four61F (n : Int) (w : World) (h : ¬ 4 ≤ n) : Calls Try.prog 61 #[.int .i64 n] w fun e w' => e = .returned (.bool false) ∧ w = w' := decide_eq_false h ▸ four61 n w
def idx4 (l : List Int) : Int := match l.findIdx? (fun n => decide (4 ≤ n)) with | some i => (i : Int) | none => -1
theorem idx4_at (l : List Int) (k : Nat) (hk : k < l.length) (h : ∀ j, j < k → l.getD j 0 < 4) (ho : 4 ≤ rd l k) : idx4 l = k := by
  have : l.findIdx? (fun n => decide (4 ≤ n)) = some k := by
    rw [List.findIdx?_eq_some_iff_getElem]
    refine ⟨hk, by simpa [rd, List.getD_eq_getElem?_getD, hk] using ho, fun j hj => ?_⟩
    have := h j hj
    have hj' : j < l.length := by omega
    simpa [List.getD_eq_getElem?_getD, hj'] using this
  simp [idx4, this]
theorem idx4_none (l : List Int) (h : ∀ j, j < l.length → l.getD j 0 < 4) : idx4 l = -1 := by
  have : l.findIdx? (fun n => decide (4 ≤ n)) = none := by
    rw [List.findIdx?_eq_none_iff]
    intro x hx
    obtain ⟨i, hi, rfl⟩ := List.getElem_of_mem hx
    simpa [List.getD_eq_getElem?_getD, hi] using h i hi
  simp [idx4, this]
set_option maxHeartbeats 400000 in
theorem idx60 (A : Option Addr) (c : Nat) (l : List Int) (w : World) (hr : ReadsInt w .i64 A l.length l) (hc : l.length ≤ c) :
    Calls Try.prog 60 #[.slice A l.length c, .func (.func 61) #[] #[]] w fun e w' => e = .returned (.int .i64 (idx4 l)) ∧ w = w' := by
  have hl : l.length ≤ 9223372036854775807 := hr.2.1
  have HR := Aside0.mk hr
  clear hr
  go_enter Try.func60, Try.ntmps60
  go_wp2
  go_loopg [8, 5] l.length (fun gk v8 v5 w' => ∃ k : Nat, Aside0 (k + gk = l.length) ∧ v8 = .int .i64 k ∧ Aside0 (∀ j, j < k → l.getD j 0 < 4) ∧ w' = w)
  case atStart => exact ⟨0, ⟨by omega⟩, rfl, ⟨by omega⟩, rfl⟩
  case round =>
    obtain ⟨k, HK, rfl, HP, rfl⟩ := hrel
    have hk : k ≤ l.length := by have := HK.out; omega
    by_cases hlt : k < l.length
    · obtain ⟨gk, rfl⟩ : ∃ m, gk = m + 1 := ⟨gk - 1, by have := HK.out; omega⟩
      obtain ⟨ad, rfl, h0⟩ := HR.out.at_ (k : Int) (by omega) (by omega)
      simp only [Int.toNat_natCast] at h0
      generalize hp : rd l k = p at h0
      have Hp := Aside0.mk hp
      clear hp
      go_wp2_with (fail)
      by_cases h4 : 4 ≤ p
      · have HO := Aside0.mk h4
        refine (four61T p _ h4).mono ?_
        clear h4
        rintro e w1 ⟨rfl, rfl⟩
        go_wp2
        go_ret
        exact ⟨ret_int (idx4_at l k hlt HP.out (by rw [Hp.out]; exact HO.out)).symm, rfl⟩
      · have HO := Aside0.mk h4
        refine (four61F p _ h4).mono ?_
        clear h4
        rintro e w1 ⟨rfl, rfl⟩
        go_wp2
        go_roundg gk
        case measure => omega
        case rel => exact ⟨k + 1, ⟨by have := HK.out; omega⟩, by go_num, ⟨fun j hj => by
          rcases Nat.lt_or_ge j k with h | h
          · exact HP.out j h
          · obtain rfl : j = k := by omega
            have := HO.out
            rw [← Hp.out] at this
            simp only [rd, Int.toNat_natCast] at this
            omega⟩, rfl⟩
    · go_wp2
      obtain rfl : k = l.length := by omega
      go_ret
      exact ⟨ret_int (idx4_none l HP.out).symm, rfl⟩
end Go.Proofs.Ytckempgpaojljaa.P
end
section
/- A drawing region in a round of a range over a function: what is walked in the plain way holds in the round too (no defer statement among its operations). -/
namespace Go.Proofs.Ytckempgpaojljaa.P
set_option linter.unusedVariables false
set_option linter.unusedSimpArgs false
open Go.RowKit Go.Proofs.YtckempgpaojljaaW.PrintWords Go.Proofs.YtckempgpaojljaaW.PrintLast Go.Proofs.YtckempgpaojljaaW.PrintMore
section
variable {P : Program} {ops : Array Oper} {Q : Exit → Act → World → Prop} {md : Region.Mode} {l n : Nat}
theorem oper_in_round {o : Oper} {a : Act} {w : World} {K : Act → World → Prop} (hd : ∀ c, o.op ≠ .defer c) (h : o.wp P a w K Q) : o.wpIn (Fence.wide.inRound l) n P a w K Q := by
  refine ⟨fun _ _ => trivial, ?_⟩
  rw [show (Fence.wide.inRound l).round = some l from rfl, Oper.semAt_eq _ _ _ hd]
  unfold Oper.wp at h
  generalize he : (execOp a.eval o).run P w = r at h
  cases r with
  | ok x w' =>
    cases x with
    | value v => exact h
    | skip => exact h
    | defer d => exact h
    | enter f args =>
      refine ⟨fun e => by simp [Fence.inRound, Fence.wide] at e, ?_⟩
      refine CallsIn.inRound l (callsIn_wide.2 (h.mono ?_))
      intro e w'' hh
      cases e <;> exact hh
    | row row args =>
      refine ⟨fun e => by simp [Fence.inRound, Fence.wide] at e, fun c cs _ => ?_⟩
      obtain ⟨v, w'', hk, hs⟩ := h c cs
      exact ⟨v, w'', hk, stepsIn_wide.2 hs⟩
    | _ => exact h.elim
  | halt x w' =>
    cases x <;> first | exact h | exact h.elim
theorem any_in_round (hd : ∀ (i : Nat) (o : Oper) c, ops[i]? = some o → o.op ≠ .defer c) (hq : ¬ LetsOut Q) :
    ∀ (fuel : Nat) (listed : Array Bool) (a : Act) (w : World), wpAny P md ops Q fuel listed a w → wpAnyIn (Fence.wide.inRound l) n P md ops Q fuel listed a w
  | 0, _, _, _, h => h
  | fuel + 1, listed, a, w, h => ⟨h.1, fun i hi => by
      have hh := h.2 i hi
      unfold wpOp at hh
      unfold wpOpIn
      cases ho : ops[i]? with
      | none =>
        rw [ho] at hh
        exact any_in_round hd hq fuel _ _ _ hh
      | some o =>
        rw [ho] at hh
        simp only at hh ⊢
        by_cases hw : Region.wanted o (yielded ops a.tmps) = true
        · rw [if_pos hw] at hh ⊢
          refine Oper.wpIn_mono (fun a w h => any_in_round hd hq fuel _ a w h) (oper_in_round (hd i o · ho) (hh.resolve_right (fun e => hq e.2)))
        · rw [if_neg hw] at hh ⊢
          exact ⟨fun _ _ => trivial, any_in_round hd hq fuel _ _ _ hh⟩⟩
theorem startR_ {S : World → Prop} {ds : List Nat} {id k : Nat} {a : Act} {w : World} (lst : Array Bool) (hm : P.follows .mixedOrders = true) (hn : ops.size = k) (hl : Array.replicate k false = lst)
    (hd : (ops.all fun o => match o.op with | .defer _ => false | _ => true) = true) (hq : ¬ LetsOut Q) (hS : S w.drew)
    (h : S w.drew → wpAnyLast P .any ops Q S ds k lst a w.drew) : (Code.region id ops true).wpIn (Fence.wide.inRound l) n P Q a w := by
  subst hn
  subst hl
  refine wpIn_region_any hm (any_in_round (fun i o c ho e => ?_) hq _ _ _ _ (wpAny_of_last _ _ _ _ (h hS)))
  have := Array.all_eq_true_iff_forall_mem.1 hd o (Array.mem_of_getElem? ho)
  rw [e] at this
  exact absurd this (by simp)
end
end Go.Proofs.Ytckempgpaojljaa.P
end
section
/- slices.Backward over pieces: what the function value yields, for every loop body that keeps what lay ahead and the slice's own variable. -/
namespace Go.Proofs.Ytckempgpaojljaa.P
set_option linter.unusedVariables false
set_option linter.unusedSimpArgs false
open Go.RowKit Go.Proofs.YtckempgpaojljaaW.PrintWords Go.Proofs.YtckempgpaojljaaW.PrintLast Go.Proofs.YtckempgpaojljaaW.PrintMore
attribute [local go_sem] Oper.semAt_some
def downFrom (ls : List S59) (k : Nat) : List (Nat × S59) := (List.range k).map fun j => (ls.length - 1 - j, rd_T59 ls ((ls.length - 1 - j : Nat) : Int))
theorem downFrom_succ (ls : List S59) (k : Nat) : downFrom ls (k + 1) = downFrom ls k ++ [(ls.length - 1 - k, rd_T59 ls ((ls.length - 1 - k : Nat) : Int))] := by simp [downFrom, List.range_succ]
theorem downFrom_length (ls : List S59) (k : Nat) : (downFrom ls k).length = k := by simp [downFrom]
def KpB (n0 Bs : Nat) (W W' : World) : Prop := Below n0 W W' ∧ W'.heap[Bs]? = W.heap[Bs]?
theorem KpB.t {n0 Bs : Nat} {A B C : World} (h : KpB n0 Bs A B) (k : KpB n0 Bs B C) : KpB n0 Bs A C := ⟨h.1.trans k.1, k.2.trans h.2⟩
def encB (x : Nat × S59) : Array Value := #[.int .i64 (x.1 : Int), .agg #[.int .i64 x.2.f0, .int .i64 x.2.f1]]
set_option maxRecDepth 100000 in
set_option maxHeartbeats 2000000 in
theorem back67 (n l Bs : Nat) (A : Option Addr) (c : Nat) (ls : List S59) (w : World) (hr : Kd.C k59 w A ls.length ls) (hc : ls.length ≤ c) (J Jx : List (Nat × S59) → World → Prop)
    (hY : ∀ pre x W, J pre W → pre.length < ls.length → YieldAt Fence.wide (n - 1) Try.prog l (encB x) W fun e W' =>
      (e = .returned (.bool true) ∧ J (pre ++ [x]) W' ∧ KpB w.heap.size Bs W W') ∨ (e = .returned (.bool false) ∧ Jx (pre ++ [x]) W'))
    (W : World) (hW : Below w.heap.size w W) (hB : W.heap[Bs]? = some (.cells #[.slice A ls.length c] 30 (0, 0))) (h0 : J [] W) :
    CallsIn Fence.wide n Try.prog 67 #[.func (.yield l) #[] #[], .pointer (some ⟨Bs, 0, none⟩)] W fun e W' => (∃ v, e = .returned v) ∧
      ((∃ ys, ys = downFrom ls ls.length ∧ J ys W') ∨ (∃ pre : List (Nat × S59), True ∧ Jx pre W')) := by
  have hlen : ls.length ≤ 9223372036854775807 := hr.2.1
  have HR := Aside0.mk hr
  have HY := Aside0.mk hY
  have hcB : W.cell? ⟨Bs, 0, none⟩ = some (.slice A ls.length c) := hq_cell hB 0 _ rfl
  have HB := Aside0.mk hB
  have HW := Aside0.mk hW
  have H0 := Aside0.mk h0
  clear hr hY hB hW h0
  refine callsIn_of_wp Try.func67 rfl trivial ?_ rfl
  simp only [Try.ntmps67, List.size_toArray, List.length_cons, List.length_nil, Nat.reduceAdd, Nat.reduceSub, Array.replicate_succ, Array.replicate_zero, List.push_toArray, List.append_toArray, List.nil_append, List.cons_append]
  gi_wp2
  gi_loopw [3] (fun i wr => ∃ k : Nat, k ≤ ls.length ∧ i = .int .i64 ((ls.length : Int) - 1 - k) ∧ Aside0 (J (downFrom ls k) wr) ∧ Aside0 (KpB w.heap.size Bs W wr))
    (fun i _ => (intOf i + 1).toNat)
  case atStart => exact ⟨0, Nat.zero_le _, by simp, H0, ⟨Below.refl _ _, rfl⟩⟩
  case round =>
    obtain ⟨k, hk, rfl, HJ, HK⟩ := hrel
    have hcx : wr.cell? ⟨Bs, 0, none⟩ = some (.slice A ls.length c) := hq_cell (HK.out.2.trans HB.out) 0 _ rfl
    by_cases hlt : k < ls.length
    · obtain ⟨i, hi⟩ : ∃ i : Nat, ls.length - 1 - k = i := ⟨_, rfl⟩
      have hi' : ((ls.length : Int) - 1 - k) = (i : Int) := by omega
      have hil : i < ls.length := by omega
      rw [hi']
      have HI := Aside0.mk hi
      clear hi hi'
      obtain ⟨ad, hA, c0, c1⟩ := at_T59 HR.out (i : Int) (by omega) (by omega)
      simp only [Int.toNat_natCast] at c0 c1
      replace c0 := ((HW.out.trans HK.out.1).cell (World.block_lt_of_cell? w _ c0)).trans c0
      replace c1 := ((HW.out.trans HK.out.1).cell (World.block_lt_of_cell? w _ c1)).trans c1
      obtain ⟨p, hp⟩ : ∃ p, rd_T59 ls (i : Int) = p := ⟨_, rfl⟩
      rw [hp] at c0 c1
      have HP := Aside0.mk hp
      clear hp
      subst hA
      obtain ⟨fn, tmps, assign, body, hy, hRR⟩ := HY.out _ (i, p) wr HJ.out (by rw [downFrom_length]; exact hlt)
      have HRR := Aside0.mk hRR
      clear hRR
      dsimp only [encB] at hy
      gi_wp2
      refine ⟨fun e => by simp [Fence.wide] at e, HRR.out.mono ?_⟩
      rintro e W3 (⟨rfl, hJ3, hk3⟩ | ⟨rfl, hJx3⟩)
      · have HJ3 := Aside0.mk hJ3
        have HK3 := Aside0.mk hk3
        clear hJ3 hk3
        gi_wp2
        go_roundw
        case rel => exact ⟨k + 1, by omega, by have := HI.out; congr 1; omega, ⟨by rw [downFrom_succ, HI.out, HP.out]; exact HJ3.out⟩, ⟨HK.out.t HK3.out⟩⟩
        case measure => first | (simp [intOf]; done) | (simp [intOf]; omega)
      · gi_wp2
        refine bodyPost_ret (results_none rfl _ _ _) rfl ?_
        exact ⟨⟨_, rfl⟩, .inr ⟨_, trivial, hJx3⟩⟩
    · obtain rfl : k = ls.length := by omega
      have e : ((ls.length : Int) - 1 - (ls.length : Nat)) = -1 := by omega
      rw [e]
      clear e
      gi_wp2
      go_end0
      exact ⟨⟨_, rfl⟩, .inl ⟨_, rfl, HJ.out⟩⟩
theorem back_stops (n Bs : Nat) (A : Option Addr) (c : Nat) (ls : List S59) (w W0 : World) (hr : Kd.C k59 w A ls.length ls) (hc : ls.length ≤ c) (hw : Below w.heap.size w W0) (hBs : Bs < W0.heap.size)
    (hB : W0.heap[Bs]? = some (.cells #[.slice A ls.length c] 30 (0, 0))) :
    SeqStopsK Fence.wide n Try.prog 67 #[.pointer (some ⟨Bs, 0, none⟩)] encB (KpB w.heap.size Bs) (fun ys => ys = downFrom ls ls.length) (fun _ => True) ls.length W0 := fun l J Jx W hW _ _ hY h0 =>
  back67 n l Bs A c ls w hr hc J Jx hY W (hw.trans (hW.mono hw.size)) ((hW.block Bs hBs).trans hB) h0
theorem back58 (A : Option Addr) (m c : Nat) (w : World) :
    Calls Try.prog 58 #[.slice A m c] w fun e w' => e = .returned (.func (.func 67) #[] #[.pointer (some ⟨w.heap.size, 0, none⟩)]) ∧ w' = w.alloc (.cells #[.slice A m c] 30) := by
  go_enter Try.func58, Try.ntmps58
  go_wp2
  go_ret
  exact ⟨rfl, rfl⟩
end Go.Proofs.Ytckempgpaojljaa.P
end
section
/- The contract of cost.start: a linked list of clusters, one for each piece. -/
namespace Go.Proofs.Ytckempgpaojljaa.P
set_option linter.unusedVariables false
set_option linter.unusedSimpArgs false
open Go.RowKit Go.Proofs.YtckempgpaojljaaW.PrintWords Go.Proofs.YtckempgpaojljaaW.PrintLast Go.Proofs.YtckempgpaojljaaW.PrintMore
attribute [local go_sem] Oper.semAt_some
def start43.T5 : Bool × List (List Nat × List Nat) := (true, [([], []), ([], []), ([1], [1]), ([], []), ([3], [3]), ([], []), ([5], [5]), ([6], [6]), ([7], [7]), ([2, 4, 8], [2, 4, 8]), ([9], [9]), ([0, 0, 1, 2, 3, 4, 5, 6, 7, 8, 9, 10], [0]), ([11, 0, 1, 2, 3, 4, 5, 6, 7, 8, 9, 10], [11]), ([12, 10, 0, 1, 2, 3, 4, 5, 6, 7, 8, 9, 10], [10, 12])])
def start43.B5 : List Nat := [0, 0, 2, 0, 8, 0, 32, 96, 224, 510, 1022, 2047, 4095, 8191]
theorem start43.tab5 : rtab .any (opsOf Try.f43 5) = start43.T5 := by kernel_rfl
theorem start43.bits5 : waitsOk start43.T5.2 start43.B5 = true := by kernel_rfl
theorem LL.turn {W W' : World} {n0 : Nat} {xs : List Nd} (h : LL W n0 xs) {row : Option Nat} (hg : W.grownBy W' row) (hr : ∀ r, row = some r → ∃ o : Obj, W.heap[r]? = some o ∧ o.isCells = false) : LL W' n0 xs := by
  refine ⟨h.lo, fun i x hx => ?_, fun i x hx => ?_, h.ne⟩
  · rw [hg.block x.b (h.lt i x hx) (fun e => by
      obtain ⟨o, ho, hc⟩ := hr x.b e.symm
      rw [h.blk i x hx] at ho
      cases ho
      cases hc)]
    exact h.blk i x hx
  · refine Kd.R_step (h.row i x hx) (fun k hk hlt => hg.block k hlt (fun e => ?_))
    obtain ⟨_, inner, ho, _⟩ := h.row i x hx
    obtain ⟨cells, hcc⟩ := own_typed ho k hk
    obtain ⟨o, ho, hc⟩ := hr k e.symm
    rw [hcc] at ho
    cases ho
    cases hc
theorem blk_turn {W W' : World} {b : Nat} {cs : Array Value} {t : TypeId} (h : W.heap[b]? = some (.cells cs t (0, 0))) {row : Option Nat} (hg : W.grownBy W' row) (hr : ∀ r, row = some r → ∃ o : Obj, W.heap[r]? = some o ∧ o.isCells = false) : W'.heap[b]? = some (.cells cs t (0, 0)) := by
  rw [hg.block b (hq_lt h) (fun e => by
      obtain ⟨o, ho, hc⟩ := hr b e.symm
      rw [h] at ho
      cases ho
      cases hc)]
  exact h
theorem LL.cons {W : World} {n0 : Nat} {xs : List Nd} (h : LL W n0 xs) (z : Nd) (hb : n0 ≤ z.b) (hk : W.heap[z.b]? = some (.cells #[z.v, .int .i64 z.nm, .pointer (ptr xs 0)] 81 (0, 0)))
    (hr : Kd.R (Kd.int .i64) 3 W n0 (fun k => z.v.ownBlock = some k) z.v z.at_) (hne : ∀ (i : Nat) (y : Nd), xs[i]? = some y → z.b ≠ y.b ∧ NeRow z.v y.v) : LL W n0 (z :: xs) := by
  have hp : ∀ i, ptr (z :: xs) (i + 1) = ptr xs i := fun i => by simp [ptr]
  refine ⟨fun i x hx => ?_, fun i x hx => ?_, fun i x hx => ?_, fun i j x y hij hx hy => ?_⟩
  · cases i with
    | zero => simp at hx; subst hx; exact hb
    | succ i => exact h.lo i x (by simpa using hx)
  · rw [hp]
    cases i with
    | zero => simp at hx; subst hx; exact hk
    | succ i => exact h.blk i x (by simpa using hx)
  · cases i with
    | zero => simp at hx; subst hx; exact hr
    | succ i => exact h.row i x (by simpa using hx)
  · cases j with
    | zero => omega
    | succ j =>
      cases i with
      | zero => simp at hx; subst hx; exact hne j y (by simpa using hy)
      | succ i => exact h.ne i j x y (by omega) (by simpa using hx) (by simpa using hy)
theorem R_one (W : World) (n0 : Nat) (x : Int) (hb : n0 ≤ W.heap.size) : Kd.R (Kd.int .i64) 3 (W.alloc (.cells #[.int .i64 x] 3)) n0 (fun k => (Value.slice (some ⟨W.heap.size, 0, none⟩) 1 1).ownBlock = some k) (.slice (some ⟨W.heap.size, 0, none⟩) 1 1) [x] :=
  ⟨fun _ hk => hk, [.int .i64 x], own_lit W n0 3 .i64 [x] hb (by simp), Reps.snoc (Reps.none _ _) rfl rfl⟩
def startC (l : List S59) : List (List Int × Int) := l.zipIdx.map fun q => ([(q.2 : Int)], q.1.f0)
theorem startC_down (ls : List S59) : (downFrom ls ls.length).reverse.map (fun q => ([(q.1 : Int)], q.2.f0)) = startC ls := by
  apply List.ext_getElem
  · simp [downFrom, startC]
  · intro i h1 h2
    have hi : i < ls.length := by simpa [startC] using h2
    have e : ls.length - 1 - (ls.length - 1 - i) = i := by omega
    simp [downFrom, startC, List.getElem_reverse, e, rd_T59, hi]
structure SInv (w : World) (g Bc Bs : Nat) (sl : Value) (pre : List (Nat × S59)) (W : World) : Prop where
  below : Below w.heap.size w W
  gc : ∃ xs, W.heap[g]? = some (.cells #[.pointer (ptr xs 0)] 79 (0, 0)) ∧ LL W w.heap.size xs ∧ xs.map (fun x => (x.at_, x.nm)) = pre.reverse.map (fun q => ([(q.1 : Int)], q.2.f0))
  cv : W.heap[Bc]? = some (.cells #[.pointer (some ⟨g, 0, none⟩)] 75 (0, 0))
  sv : W.heap[Bs]? = some (.cells #[sl] 30 (0, 0))
theorem SInv.turn {w : World} {g Bc Bs : Nat} {sl : Value} {B : Nat} (hB : w.heap.size ≤ B) : OwnFrom B (SInv w g Bc Bs sl) := by
  intro pre W W' row h hg hr
  have hr' : ∀ r, row = some r → ∃ o : Obj, W.heap[r]? = some o ∧ o.isCells = false := fun r e => (hr r e).2
  obtain ⟨xs, h1, h2, h3⟩ := h.gc
  exact ⟨h.below.grown hg h.below.size (fun k e => Nat.le_trans hB (hr k e).1), ⟨xs, blk_turn h1 hg hr', h2.turn hg hr', h3⟩, blk_turn h.cv hg hr', blk_turn h.sv hg hr'⟩
theorem enters67 (args : Array Value) (w : World) : (callFunc 67 args).run Try.prog w = .ok (.enter 67 args) w := enters_ Try.func67 (by kernel_rfl) rfl args w
set_option maxRecDepth 100000 in
set_option maxHeartbeats 2000000 in
theorem start43.calls (A : Option Addr) (c : Nat) (ls : List S59) (w : World) (hr : Kd.C k59 w A ls.length ls) (hc : ls.length ≤ c) :
    Calls Try.prog 43 #[.slice A ls.length c] w fun e w' => ∃ g xs, e = .returned (.pointer (some ⟨g, 0, none⟩)) ∧ w.heap.size ≤ g ∧ w'.heap[g]? = some (.cells #[.pointer (ptr xs 0)] 79 (0, 0)) ∧
      LL w' w.heap.size xs ∧ xs.map (fun x => (x.at_, x.nm)) = startC ls ∧ Below w.heap.size w w' := by
  have HR := Aside0.mk hr
  clear hr
  refine (callsIn_wide (n := 9)).1 ?_
  refine callsIn_of_wp_marks Try.func43 rfl trivial ?_ rfl
  simp only [Try.ntmps43, List.size_toArray, List.length_cons, List.length_nil, Nat.reduceAdd, Nat.reduceSub, Array.replicate_succ, Array.replicate_zero, List.push_toArray, List.append_toArray, List.nil_append, List.cons_append]
  gi_wp2
  refine ⟨trivial, (callsIn_wide.2 (back58 _ _ _ _)).mono ?_⟩
  rintro e w' ⟨rfl, rfl⟩
  obtain ⟨W0, hW0⟩ : ∃ W0, ((w.alloc (.cells #[.pointer none] 79)).alloc (.cells #[.pointer (some ⟨w.heap.size, 0, none⟩)] 75)).alloc (.cells #[.slice A ls.length c] 30) = W0 := ⟨_, rfl⟩
  have hsz : ((w.alloc (.cells #[.pointer none] 79)).alloc (.cells #[.pointer (some ⟨w.heap.size, 0, none⟩)] 75)).heap.size = w.heap.size + 2 := by simp
  have hsz0 : W0.heap.size = w.heap.size + 3 := by rw [← hW0]; simp
  rw [hW0, hsz]
  have h0 : SInv w w.heap.size (w.heap.size + 1) (w.heap.size + 2) (.slice A ls.length c) [] W0 := by
    rw [← hW0]
    refine ⟨(((Below.refl _ w).alloc (Nat.le_refl _) _).alloc (by simp) _).alloc (by simp; omega) _, ⟨[], ?_, ⟨fun i x hx => by simp at hx, fun i x hx => by simp at hx, fun i x hx => by simp at hx, fun i j x y _ hx => by simp at hx⟩, rfl⟩, ?_, ?_⟩
    · rw [Below.heap_alloc _ _ _ (by simp; omega), Below.heap_alloc _ _ _ (by simp), blk_new]
      rfl
    · rw [Below.heap_alloc _ _ _ (by simp)]
      have := blk_new (w.alloc (.cells #[.pointer none] 79)) (.cells #[.pointer (some ⟨w.heap.size, 0, none⟩)] 75)
      simpa using this
    · have := blk_new ((w.alloc (.cells #[.pointer none] 79)).alloc (.cells #[.pointer (some ⟨w.heap.size, 0, none⟩)] 75)) (.cells #[.slice A ls.length c] 30)
      rw [hsz] at this
      exact this
  have H0 := Aside0.mk h0
  have HZ := Aside0.mk hsz0
  clear hW0 hsz h0 hsz0
  gi_wp2
  refine wpIn_rangeFunc_ownH (F := Fence.wide) (n := 9) (α := Nat × S59) rfl (by omega) (gf := 67) (lb := #[.pointer (some ⟨w.heap.size + 2, 0, none⟩)]) rfl trivial enters67
    (back_stops _ (w.heap.size + 2) A c ls w W0 HR.out hc (H0.out.below) (by have := HZ.out; omega) H0.out.sv) KpB.t ?kb (Below.refl _ _) ?ps
    (SInv w w.heap.size (w.heap.size + 1) (w.heap.size + 2) (.slice A ls.length c)) (fun _ _ _ => False) (SInv.turn (by have := HZ.out; omega)) (fun _ _ _ _ _ hs _ _ => hs) H0.out
    (fun x a' W => ∃ Bx, w.heap.size + 3 ≤ Bx ∧ W.heap[Bx]? = some (.cells #[.int .i64 x.2.f0, .int .i64 x.2.f1] 59 (0, 0)) ∧ a' = { tmps := #[.slice A ls.length c, undef, .pointer none, .pointer (some ⟨w.heap.size + 1, 0, none⟩), .int .i64 (x.1 : Int), .pointer (some ⟨Bx, 0, none⟩), .agg #[.pointer none], .pointer (some ⟨w.heap.size, 0, none⟩), .slice A ls.length c, .func (.func 67) #[] #[.pointer (some ⟨w.heap.size + 2, 0, none⟩)], .int .i64 (x.1 : Int), .agg #[.int .i64 x.2.f0, .int .i64 x.2.f1], undef, undef, undef, undef, undef, undef, undef, undef, undef, undef, undef, undef, undef, undef], defers := [] })
    ?ax ?assign ?body ?done ?stop
  case ps => intro x; rfl
  case kb =>
    intro W l o o' hl ho hc1 hc2
    have hW : l < W.heap.size := hq_lt ho
    refine ⟨(belowK_b (w := W0) (n₀ := w.heap.size) (by have := HZ.out; omega) W l o o' hl ho hc1 hc2), ?_⟩
    exact World.putObj_heap_other (by have := HZ.out; omega)
  case ax =>
    rintro x a' _ W W' row ⟨Bx, h1, h2, h3⟩ hg hr
    exact ⟨Bx, h1, blk_turn h2 hg (fun r e => (hr r e).2), h3⟩
  case assign =>
    intro l pre x W K hi hK
    have HI := Aside0.mk hi
    have HK := Aside0.mk hK
    clear hi hK
    simp only [encB]
    gi_wp2
    refine HK.out _ _ ((KeepsOthers.alloc _ _).from _) ⟨(Below.refl _ W).alloc HI.out.below.size _, Below.heap_alloc _ _ _ (hq_lt HI.out.sv)⟩ ?_ ⟨W.heap.size, ?_, blk_new W _, rfl⟩
    · obtain ⟨xs, h1, h2, h3⟩ := HI.out.gc
      have hb : Below W.heap.size W (W.alloc (.cells #[.int .i64 x.2.f0, .int .i64 x.2.f1] 59)) := (Below.refl _ W).alloc (Nat.le_refl _) _
      exact ⟨HI.out.below.alloc HI.out.below.size _, ⟨xs, (hb.block _ (hq_lt h1)).trans h1, h2.below hb, h3⟩, (hb.block _ (hq_lt HI.out.cv)).trans HI.out.cv, (hb.block _ (hq_lt HI.out.sv)).trans HI.out.sv⟩
    · have := hq_lt HI.out.sv
      omega
  case body =>
    rintro l pre x a' W hl ⟨r, hr⟩ hI ⟨Bx, hBx, hX, rfl⟩ hlt
    obtain ⟨xs, hg1, hL, hmap⟩ := hI.gc
    have HI := Aside0.mk hI
    have HX := Aside0.mk hX
    have HG := Aside0.mk hg1
    have HL := Aside0.mk hL
    have HM := Aside0.mk hmap
    clear hI hX hg1 hL hmap hr hl hlt
    have ecv := hq_cell HI.out.cv 0 _ rfl
    gi_wp2
    clear ecv
    refine startR_ (k := 14) (S := fun w' => w'.cell? ⟨w.heap.size + 1, 0, none⟩ = some (.pointer (some ⟨w.heap.size, 0, none⟩)) ∧ w'.cell? ⟨Bx, 0, none⟩ = some (.int .i64 x.2.f0) ∧ w'.cell? ⟨w.heap.size, 0, none⟩ = some (.pointer (ptr xs 0))) (ds := [13]) #[false, false, false, false, false, false, false, false, false, false, false, false, false, false] (by kernel_rfl) rfl rfl (by kernel_rfl) (fun ⟨_, _, h_⟩ => h_) ⟨hq_cell (W := W.drew) HI.out.cv 0 _ rfl, hq_cell (W := W.drew) HX.out 0 _ rfl, hq_cell (W := W.drew) HG.out 0 _ rfl⟩ (fun hHeld => ?_); refine with_tabW start43.tab5 start43.bits5 (fun HT_ HW_ => ?_)
    refine pure_ (i := 1) (N := some 13) (v := ?_) (a' := ?_) #[false, true, false, false, false, false, false, false, false, false, false, false, false, false] rfl rfl (any_of HT_.out (by kernel_rfl)) (fun _ _ _ h => h) (Or.inl ⟨by rfl, ?_⟩) ?_ ?_
    rotate_left
    · intro w'; go_simp; with_reducible rfl
    rotate_left
    · simp only [Act.put, List.setIfInBounds_toArray, List.set_cons_zero, List.set_cons_succ, i64_w, i32_w]; rfl
    refine pure_ (i := 3) (N := some 15) (v := ?_) (a' := ?_) #[false, true, false, true, false, false, false, false, false, false, false, false, false, false] rfl rfl (any_of HT_.out (by kernel_rfl)) (fun _ _ _ h => h) (Or.inl ⟨by rfl, ?_⟩) ?_ ?_
    rotate_left
    · intro w'; go_simp; with_reducible rfl
    rotate_left
    · simp only [Act.put, List.setIfInBounds_toArray, List.set_cons_zero, List.set_cons_succ, i64_w, i32_w]; rfl
    refine take_ (i := 0) (N := some 12) (v := ?_) (a' := ?_) #[true, true, false, true, false, false, false, false, false, false, false, false, false, false] rfl rfl (take_ofW HT_.out HW_.out (by kernel_rfl)) (fun _ _ _ h => h) (Or.inl ⟨by rfl, ?_⟩) hHeld ?_ ?_
    rotate_left
    · rintro w' ⟨s0, s1, s2⟩; go_simp; with_reducible rfl
    rotate_left
    · simp only [Act.put, List.setIfInBounds_toArray, List.set_cons_zero, List.set_cons_succ, i64_w, i32_w]; rfl
    refine take_ (i := 4) (N := some 16) (v := ?_) (a' := ?_) #[true, true, false, true, true, false, false, false, false, false, false, false, false, false] rfl rfl (take_ofW HT_.out HW_.out (by kernel_rfl)) (fun _ _ _ h => h) (Or.inl ⟨by rfl, ?_⟩) hHeld ?_ ?_
    rotate_left
    · rintro w' ⟨s0, s1, s2⟩; go_simp; with_reducible rfl
    rotate_left
    · simp only [Act.put, List.setIfInBounds_toArray, List.set_cons_zero, List.set_cons_succ, i64_w, i32_w]; rfl
    refine take_ (i := 5) (N := some 17) (v := ?_) (a' := ?_) #[true, true, false, true, true, true, false, false, false, false, false, false, false, false] rfl rfl (take_ofW HT_.out HW_.out (by kernel_rfl)) (fun _ _ _ h => h) (Or.inl ⟨by rfl, ?_⟩) hHeld ?_ ?_
    rotate_left
    · rintro w' ⟨s0, s1, s2⟩; go_simp; with_reducible rfl
    rotate_left
    · simp only [Act.put, List.setIfInBounds_toArray, List.set_cons_zero, List.set_cons_succ, i64_w, i32_w]; rfl
    refine pure_ (i := 6) (N := some 18) (v := ?_) (a' := ?_) #[true, true, false, true, true, true, true, false, false, false, false, false, false, false] rfl rfl (any_of HT_.out (by kernel_rfl)) (fun _ _ _ h => h) (Or.inl ⟨by rfl, ?_⟩) ?_ ?_
    rotate_left
    · intro w'; go_simp; with_reducible rfl
    rotate_left
    · simp only [Act.put, List.setIfInBounds_toArray, List.set_cons_zero, List.set_cons_succ, i64_w, i32_w]; rfl
    refine pure_ (i := 7) (N := some 19) (v := ?_) (a' := ?_) #[true, true, false, true, true, true, true, true, false, false, false, false, false, false] rfl rfl (any_of HT_.out (by kernel_rfl)) (fun _ _ _ h => h) (Or.inl ⟨by rfl, ?_⟩) ?_ ?_
    rotate_left
    · intro w'; go_simp; with_reducible rfl
    rotate_left
    · simp only [Act.put, List.setIfInBounds_toArray, List.set_cons_zero, List.set_cons_succ, i64_w, i32_w]; rfl
    refine take_ (i := 8) (N := some 20) (v := ?_) (a' := ?_) #[true, true, false, true, true, true, true, true, true, false, false, false, false, false] rfl rfl (take_ofW HT_.out HW_.out (by kernel_rfl)) (fun _ _ _ h => h) (Or.inl ⟨by rfl, ?_⟩) hHeld ?_ ?_
    rotate_left
    · rintro w' ⟨s0, s1, s2⟩; go_simp; with_reducible rfl
    rotate_left
    · simp only [Act.put, List.setIfInBounds_toArray, List.set_cons_zero, List.set_cons_succ, i64_w, i32_w]; rfl
    refine one_ (i := 2) (N := some 14) #[true, true, true, true, true, true, true, true, true, false, false, false, false, false] rfl rfl (one_of HT_.out (by kernel_rfl)) (by decide) (fun K hK => ?_)
    refine event_step (w1 := W.drew.alloc (.cells #[.int .i64 (x.1 : Int)] 3)) (v := .slice (some ⟨W.heap.size, 0, none⟩) 1 1) (by rfl) ?_ ?_
    · go_simp
    have hb1 : Below W.heap.size W (W.drew.alloc (.cells #[.int .i64 (x.1 : Int)] 3)) := (Below.refl _ W).drew.alloc (Nat.le_refl _) _
    have hn1 := R_one W.drew w.heap.size (x.1 : Int) HI.out.below.size
    have hs1 : (W.drew.alloc (.cells #[.int .i64 (x.1 : Int)] 3)).heap.size = W.heap.size + 1 := by simp
    generalize W.drew.alloc (.cells #[.int .i64 (x.1 : Int)] 3) = W1 at hb1 hn1 hs1 ⊢
    have HB1 := Aside0.mk hb1
    have HN1 := Aside0.mk hn1
    have HS1 := Aside0.mk hs1
    clear hb1 hn1 hs1
    refine hK.out _ _ ⟨hq_cell ((HB1.out.block _ (hq_lt HI.out.cv)).trans HI.out.cv) 0 _ rfl, hq_cell ((HB1.out.block _ (hq_lt HX.out)).trans HX.out) 0 _ rfl, hq_cell ((HB1.out.block _ (hq_lt HG.out)).trans HG.out) 0 _ rfl⟩ (fun hHeld => ?_)
    clear hK K
    refine norm_ (a' := ?_) ?_ ?_
    rotate_left
    · show Act.put _ (some 14) _ = _; simp only [Act.put, List.setIfInBounds_toArray, List.set_cons_zero, List.set_cons_succ, i64_w, i32_w]; rfl
    refine pure_ (i := 9) (N := some 21) (v := ?_) (a' := ?_) #[true, true, true, true, true, true, true, true, true, true, false, false, false, false] rfl rfl (any_of HT_.out (by kernel_rfl)) (fun _ _ _ h => h) (Or.inl ⟨by rfl, ?_⟩) ?_ ?_
    rotate_left
    · intro w'; go_simp; with_reducible rfl
    rotate_left
    · simp only [Act.put, List.setIfInBounds_toArray, List.set_cons_zero, List.set_cons_succ, i64_w, i32_w]; rfl
    refine one_ (i := 10) (N := some 22) #[true, true, true, true, true, true, true, true, true, true, true, false, false, false] rfl rfl (one_of HT_.out (by kernel_rfl)) (by decide) (fun K hK => ?_)
    refine event_step (w1 := W1.alloc (.cells #[.slice (some ⟨W.heap.size, 0, none⟩) 1 1, .int .i64 x.2.f0, .pointer (ptr xs 0)] 81)) (v := .pointer (some ⟨W1.heap.size, 0, none⟩)) (by rfl) ?_ ?_
    · go_simp
    have hb2 : Below W1.heap.size W1 (W1.alloc (.cells #[.slice (some ⟨W.heap.size, 0, none⟩) 1 1, .int .i64 x.2.f0, .pointer (ptr xs 0)] 81)) := (Below.refl _ W1).alloc (Nat.le_refl _) _
    have hn2 := blk_new W1 (.cells #[.slice (some ⟨W.heap.size, 0, none⟩) 1 1, .int .i64 x.2.f0, .pointer (ptr xs 0)] 81)
    generalize W1.alloc (.cells #[.slice (some ⟨W.heap.size, 0, none⟩) 1 1, .int .i64 x.2.f0, .pointer (ptr xs 0)] 81) = W2 at hb2 hn2 ⊢
    have HB2 := Aside0.mk (HB1.out.trans (hb2.mono (by have := HS1.out; omega)))
    have HR2 := Aside0.mk (Kd.R_below HN1.out hb2)
    have HN2 := Aside0.mk hn2
    clear hb2 hn2
    refine hK.out _ _ ⟨hq_cell ((HB2.out.block _ (hq_lt HI.out.cv)).trans HI.out.cv) 0 _ rfl, hq_cell ((HB2.out.block _ (hq_lt HX.out)).trans HX.out) 0 _ rfl, hq_cell ((HB2.out.block _ (hq_lt HG.out)).trans HG.out) 0 _ rfl⟩ (fun hHeld => ?_)
    clear hK K
    refine norm_ (a' := ?_) ?_ ?_
    rotate_left
    · show Act.put _ (some 22) _ = _; simp only [Act.put, List.setIfInBounds_toArray, List.set_cons_zero, List.set_cons_succ, i64_w, i32_w]; rfl
    refine pure_ (i := 11) (N := some 23) (v := ?_) (a' := ?_) #[true, true, true, true, true, true, true, true, true, true, true, true, false, false] rfl rfl (any_of HT_.out (by kernel_rfl)) (fun _ _ _ h => h) (Or.inl ⟨by rfl, ?_⟩) ?_ ?_
    rotate_left
    · intro w'; go_simp; with_reducible rfl
    rotate_left
    · simp only [Act.put, List.setIfInBounds_toArray, List.set_cons_zero, List.set_cons_succ, i64_w, i32_w]; rfl
    refine pure_ (i := 12) (N := some 24) (v := ?_) (a' := ?_) #[true, true, true, true, true, true, true, true, true, true, true, true, true, false] rfl rfl (any_of HT_.out (by kernel_rfl)) (fun _ _ _ h => h) (Or.inl ⟨by rfl, ?_⟩) ?_ ?_
    rotate_left
    · intro w'; go_simp; with_reducible rfl
    rotate_left
    · simp only [Act.put, List.setIfInBounds_toArray, List.set_cons_zero, List.set_cons_succ, i64_w, i32_w]; rfl
    refine last_ (i := 13) (N := none) #[true, true, true, true, true, true, true, true, true, true, true, true, true, true] rfl rfl (one_of HT_.out (by kernel_rfl)) (by decide) (fun K hK => ?_)
    have hc0 := hq_cell ((HB2.out.block _ (hq_lt HG.out)).trans HG.out) 0 _ rfl
    have hf0 := blk_free ((HB2.out.block _ (hq_lt HG.out)).trans HG.out) 0
    refine skip_ (w1 := W2.setCell ⟨w.heap.size, 0, none⟩ (.pointer (some ⟨W1.heap.size, 0, none⟩))) (by rfl) rfl ?_ ?_
    · first | (go_simp; done) | (go_simp; rfl)
    clear hc0 hf0
    refine hK.out _ _ ?_
    clear hK K
    refine done_ (done_of HT_.out (by kernel_rfl)) ?_
    have hG2 := (HB2.out.block _ (hq_lt HG.out)).trans HG.out
    have hL2 := HL.out.below HB2.out
    have hG3 : (W2.setCell ⟨w.heap.size, 0, none⟩ (.pointer (some ⟨W1.heap.size, 0, none⟩))).heap[w.heap.size]? = some (.cells #[.pointer (some ⟨W1.heap.size, 0, none⟩)] 79 (0, 0)) := by
      have := heap_set_same W2 w.heap.size 0 (.pointer (some ⟨W1.heap.size, 0, none⟩)) _ _ hG2
      simpa using this
    have hL3 := hL2.far w.heap.size _ 79 hG2 (by decide) (by decide) 0 (.pointer (some ⟨W1.heap.size, 0, none⟩))
    have far3 : ∀ b, b ≠ w.heap.size → (W2.setCell ⟨w.heap.size, 0, none⟩ (.pointer (some ⟨W1.heap.size, 0, none⟩))).heap[b]? = W2.heap[b]? := fun b hb => Below.heap_setCell _ _ _ _ hb
    have hxs : w.heap.size + 2 < W.heap.size := hq_lt HI.out.sv
    have hw1 : W.heap.size + 1 = W1.heap.size := HS1.out.symm
    have hwx : w.heap.size < W.heap.size := hq_lt HG.out
    have hcv := (HB2.out.block _ (hq_lt HI.out.cv)).trans HI.out.cv
    have hsv := (HB2.out.block _ (hq_lt HI.out.sv)).trans HI.out.sv
    have hB3 : Below w.heap.size W (W2.setCell ⟨w.heap.size, 0, none⟩ (.pointer (some ⟨W1.heap.size, 0, none⟩))) := (show Below w.heap.size W W2 from HB2.out.mono (Nat.le_of_lt hwx)).setCell (p := ⟨w.heap.size, 0, none⟩) (Nat.le_refl _) _
    refine ⟨?_, ⟨hB3, ?_⟩, ⟨HI.out.below.trans hB3, ⟨⟨W1.heap.size, .slice (some ⟨W.heap.size, 0, none⟩) 1 1, [(x.1 : Int)], x.2.f0⟩ :: xs, ?_, ?_, ?_⟩, ?_, ?_⟩⟩
    · exact ((KeepsFrom.of_grownBy (row := none) ⟨HB2.out.os, HB2.out.tape, HB2.out.output, HB2.out.size, fun k hk _ => HB2.out.block k hk⟩ (fun j e => by cases e)).trans ((KeepsOthers.setCell _ _ _).from _))
    · rw [far3 _ (by omega), HB2.out.block _ (hq_lt HI.out.sv)]
    · exact hG3
    · refine hL3.cons _ (by show w.heap.size ≤ W1.heap.size; omega) ?_ ?_ (fun i y hy => ?_)
      · rw [far3 _ (by show W1.heap.size ≠ w.heap.size; omega)]
        exact HN2.out
      · exact Kd.R_set HR2.out hG2 (by
          intro q hq
          have : q = 3 := by simpa [Kd.int, Kd.scalar] using hq
          omega) 0 _
      · refine ⟨?_, fun k hk hk' => ?_⟩
        · have := HL.out.lt i y hy
          show W1.heap.size ≠ y.b
          omega
        · have e1 : W.heap.size = k := by simpa [Value.ownBlock] using hk
          obtain ⟨_, inner, ho, _⟩ := HL.out.row i y hy
          have := own_lt ho k hk'
          omega
    · simp only [List.map_cons, List.reverse_append, List.reverse_singleton, List.singleton_append, HM.out]
    · rw [far3 _ (by omega)]
      exact hcv
    · rw [far3 _ (by omega)]
      exact hsv
  case done =>
    rintro D ys W hD rfl hI hK
    have ecv := hq_cell hI.cv 0 _ rfl
    have HI := Aside0.mk hI
    have HK := Aside0.mk hK
    clear hI hK
    gi_wp2
    obtain ⟨xs, h1, h2, h3⟩ := HI.out.gc
    refine ⟨by simp, .inl ⟨_, _, rfl, run_takeDeferred HK.out, ?_⟩⟩
    have hD' : w.heap.size ≤ D := by have := HZ.out; omega
    have hb := belowK_b (w := w) (Nat.le_refl _) W D _ (.deferred none) hD' HK.out rfl rfl
    have hg := grownBy_putObj' W D (.deferred none)
    have hr : ∀ r, some D = some r → ∃ o : Obj, W.heap[r]? = some o ∧ o.isCells = false := fun r e => by cases e; exact ⟨_, HK.out, rfl⟩
    refine ⟨_, results_tmp rfl _ _ _, w.heap.size, xs, rfl, Nat.le_refl _, blk_turn h1 hg hr, h2.turn hg hr, ?_, HI.out.below.trans hb⟩
    rw [h3]
    exact startC_down ls
  case stop =>
    rintro D c pre W _ _ h _
    exact h.elim
end Go.Proofs.Ytckempgpaojljaa.P
end
section
/- One step of the choice of clusters, as a plain function of lists, and what is known of its parts. -/
namespace Go.Proofs.Ytckempgpaojljaa.P
set_option linter.unusedVariables false
set_option linter.unusedSimpArgs false
open Go.RowKit Go.Proofs.YtckempgpaojljaaW.PrintWords Go.Proofs.YtckempgpaojljaaW.PrintLast Go.Proofs.YtckempgpaojljaaW.PrintMore
def cnt (xs : List Nd) (k : Nat) : List Int := (List.range 16).map fun (L : Nat) => (((xs.take k).filter fun x => decide (lv x.nm.toNat = (L : Int))).length : Int)
theorem cnt_length (xs : List Nd) (k : Nat) : (cnt xs k).length = 16 := by simp [cnt]
theorem cnt_zero (xs : List Nd) : cnt xs 0 = [0, 0, 0, 0, 0, 0, 0, 0, 0, 0, 0, 0, 0, 0, 0, 0] := by rfl
theorem cnt_get (xs : List Nd) (k L : Nat) (hL : L < 16) : (cnt xs k)[L]? = some (((xs.take k).filter fun x => decide (lv x.nm.toNat = (L : Int))).length : Int) := by
  simp [cnt, hL]
theorem cnt_succ (xs : List Nd) (k L : Nat) (x : Nd) (hx : xs[k]? = some x) (hL : lv x.nm.toNat = (L : Int)) (h16 : L < 16) : (cnt xs k).set L (rd (cnt xs k) (L : Int) + 1) = cnt xs (k + 1) := by
  have hk : k < xs.length := (List.getElem?_eq_some_iff.1 hx).1
  have ht : xs.take (k + 1) = xs.take k ++ [x] := by rw [List.take_add_one, hx]; rfl
  apply List.ext_getElem?
  intro j
  rw [List.getElem?_set]
  by_cases hj : j < 16
  · rw [cnt_get _ _ _ hj, cnt_get _ _ _ hj, ht, List.filter_append]
    by_cases e : L = j
    · subst e
      rw [if_pos rfl, if_pos (by rw [cnt_length]; exact hj)]
      have : rd (cnt xs k) (L : Int) = (((xs.take k).filter fun x => decide (lv x.nm.toNat = (L : Int))).length : Int) := by
        simp only [rd, Int.toNat_natCast, List.getD_eq_getElem?_getD, cnt_get _ _ _ hj, Option.getD_some]
      rw [this]
      simp [hL]
    · rw [if_neg e]
      have : ¬ (L : Int) = (j : Int) := by omega
      simp [hL, this]
  · have h1 : (cnt xs k)[j]? = none := by simp [cnt]; omega
    have h2 : (cnt xs (k + 1))[j]? = none := by simp [cnt]; omega
    rw [h1, h2]
    split <;> simp_all
def prs (xs : List Nd) : List (List Int × Int) := xs.map fun x => (x.at_, x.nm)
theorem prs_length (xs : List Nd) : (prs xs).length = xs.length := by simp [prs]
theorem prs_get {xs : List Nd} {i : Nat} {x : Nd} (h : xs[i]? = some x) : (prs xs).getD i ([], 0) = (x.at_, x.nm) := by simp [prs, List.getD_eq_getElem?_getD, h]
def cntC (cs : List (List Int × Int)) : List Int := (List.range 16).map fun (L : Nat) => ((cs.filter fun c => decide (lv c.2.toNat = (L : Int))).length : Int)
def posC (cs : List (List Int × Int)) (lev : Int) (k : Nat) : List Nat := (List.range k).filter fun i => decide (lv (cs.getD i ([], 0)).2.toNat = lev)
def mergeC (cs : List (List Int × Int)) (i j : Nat) : List (List Int × Int) := (cs.set i ((cs.getD i ([], 0)).1 ++ (cs.getD j ([], 0)).1, (cs.getD i ([], 0)).2 + (cs.getD j ([], 0)).2)).eraseIdx j
def stepC (cs : List (List Int × Int)) : Option (List (List Int × Int)) :=
  if idx4 (cntC cs) < 0 then none else
    match (posC cs (idx4 (cntC cs)) cs.length).take 4 with
    | [i0, i1, i2, i3] => some (mergeC (mergeC (mergeC cs i0 i1) i0 (i2 - 1)) i0 (i3 - 2))
    | _ => none
theorem cnt_all (xs : List Nd) : cnt xs xs.length = cntC (prs xs) := by
  unfold cnt cntC prs
  apply List.map_congr_left
  intro L _
  rw [List.take_length, List.filter_map, List.length_map]
  rfl
theorem filter_one {α : Type} (p : α → Bool) (x : α) : [x].filter p = if p x then [x] else [] := by cases h : p x <;> simp [h]
theorem posC_succ_yes (cs : List (List Int × Int)) (lev : Int) (k : Nat) (h : lv (cs.getD k ([], 0)).2.toNat = lev) : posC cs lev (k + 1) = posC cs lev k ++ [k] := by
  unfold posC
  rw [List.range_succ, List.filter_append]
  congr 1
  rw [filter_one, decide_eq_true h]
  rfl
theorem posC_succ_no (cs : List (List Int × Int)) (lev : Int) (k : Nat) (h : ¬ lv (cs.getD k ([], 0)).2.toNat = lev) : posC cs lev (k + 1) = posC cs lev k := by
  unfold posC
  rw [List.range_succ, List.filter_append, filter_one, decide_eq_false h]
  simp
theorem posC_le (cs : List (List Int × Int)) (lev : Int) {j k : Nat} (h : j ≤ k) : posC cs lev j <+: posC cs lev k := by
  induction k with
  | zero => obtain rfl : j = 0 := by omega
            exact List.prefix_refl _
  | succ k ih =>
    rcases Nat.lt_or_ge j (k + 1) with hl | hl
    · refine (ih (by omega)).trans ?_
      by_cases e : lv (cs.getD k ([], 0)).2.toNat = lev
      · rw [posC_succ_yes _ _ _ e]; exact List.prefix_append _ _
      · rw [posC_succ_no _ _ _ e]; exact List.prefix_refl _
    · obtain rfl : j = k + 1 := by omega
      exact List.prefix_refl _
theorem posC_mem {cs : List (List Int × Int)} {lev : Int} {k i : Nat} (h : i ∈ posC cs lev k) : i < k ∧ lv (cs.getD i ([], 0)).2.toNat = lev := by
  unfold posC at h
  rw [List.mem_filter] at h
  simpa using h
theorem posC_sorted (cs : List (List Int × Int)) (lev : Int) (k : Nat) : (posC cs lev k).Pairwise (· < ·) := List.Pairwise.filter _ List.pairwise_lt_range
theorem posC_count (cs : List (List Int × Int)) (L : Nat) (hL : L < 16) : ((posC cs (L : Int) cs.length).length : Int) = (cntC cs).getD L 0 := by
  have h1 : (cntC cs).getD L 0 = ((cs.filter fun c => decide (lv c.2.toNat = (L : Int))).length : Int) := by simp [cntC, List.getD_eq_getElem?_getD, hL]
  rw [h1]
  congr 1
  have : ∀ k, k ≤ cs.length → (posC cs (L : Int) k).length = ((cs.take k).filter fun c => decide (lv c.2.toNat = (L : Int))).length := by
    intro k
    induction k with
    | zero => intro _; rfl
    | succ k ih =>
      intro hk
      have hx : cs[k]? = some (cs.getD k ([], 0)) := by simp [List.getD_eq_getElem?_getD, show k < cs.length by omega]
      rw [List.take_add_one, hx, List.filter_append]
      by_cases e : lv (cs.getD k ([], 0)).2.toNat = (L : Int)
      · rw [posC_succ_yes _ _ _ e, List.length_append, List.length_append, ih (by omega)]
        rw [Option.toList_some, filter_one, decide_eq_true e]
        rfl
      · rw [posC_succ_no _ _ _ e, List.length_append, ih (by omega)]
        rw [Option.toList_some, filter_one, decide_eq_false e]
        simp
  have := this cs.length (Nat.le_refl _)
  rwa [List.take_length] at this
theorem idx4_spec (l : List Int) : idx4 l = -1 ∨ ∃ L : Nat, idx4 l = (L : Int) ∧ L < l.length ∧ 4 ≤ l.getD L 0 := by
  unfold idx4
  cases h : l.findIdx? (fun n => decide (4 ≤ n)) with
  | none => exact .inl rfl
  | some i =>
    obtain ⟨hi, h1, _⟩ := List.findIdx?_eq_some_iff_getElem.1 h
    exact .inr ⟨i, rfl, hi, by simpa [List.getD_eq_getElem?_getD, hi] using h1⟩
theorem sum_set (l : List Int) (i : Nat) (a : Int) (h : i < l.length) : (l.set i a).sum = l.sum - l.getD i 0 + a := by
  induction l generalizing i with
  | nil => simp at h
  | cons x l ih =>
    cases i with
    | zero => simp; omega
    | succ i =>
      have := ih i (by simpa using h)
      simp only [List.set_cons_succ, List.sum_cons, List.getD_cons_succ, this]
      omega
theorem sum_erase (l : List Int) (i : Nat) (h : i < l.length) : (l.eraseIdx i).sum = l.sum - l.getD i 0 := by
  induction l generalizing i with
  | nil => simp at h
  | cons x l ih =>
    cases i with
    | zero => simp; omega
    | succ i =>
      have := ih i (by simpa using h)
      simp only [List.eraseIdx_cons_succ, List.sum_cons, List.getD_cons_succ, this]
      omega
theorem map_erase {α β : Type} (f : α → β) (l : List α) (i : Nat) : (l.eraseIdx i).map f = (l.map f).eraseIdx i := by
  induction l generalizing i with
  | nil => rfl
  | cons x l ih =>
    cases i with
    | zero => rfl
    | succ i => simp [ih]
theorem sum_merge (f : List Int × Int → Int) (hf : ∀ a b : List Int × Int, f (a.1 ++ b.1, a.2 + b.2) = f a + f b) (cs : List (List Int × Int)) (i j : Nat) (hij : i < j) (hj : j < cs.length) : ((mergeC cs i j).map f).sum = (cs.map f).sum := by
  unfold mergeC
  have hi : i < cs.length := by omega
  rw [map_erase, List.map_set, sum_erase _ _ (by simpa using hj), sum_set _ _ _ (by simpa using hi), hf]
  have e1 : (cs.map f).getD i 0 = f (cs.getD i ([], 0)) := by simp [List.getD_eq_getElem?_getD, hi]
  have e2 : ((cs.map f).set i (f (cs.getD i ([], 0)) + f (cs.getD j ([], 0)))).getD j 0 = f (cs.getD j ([], 0)) := by
    rw [List.getD_eq_getElem?_getD, List.getElem?_set, if_neg (by omega)]
    simp [List.getD_eq_getElem?_getD, hj]
  rw [e1, e2]
  omega
theorem sum_ge (l : List Int) (h : ∀ x ∈ l, 0 ≤ x) (i : Nat) (hi : i < l.length) : l.getD i 0 ≤ l.sum := by
  induction l generalizing i with
  | nil => simp at hi
  | cons x l ih =>
    have hx := h x (by simp)
    have hs : 0 ≤ l.sum := by
      clear ih hi
      induction l with
      | nil => simp
      | cons y l ih =>
        have := ih (fun z hz => h z (by simp at hz ⊢; rcases hz with e | e <;> simp [e]))
        have hy := h y (by simp)
        simp
        omega
    cases i with
    | zero => simp; omega
    | succ i =>
      have := ih (fun z hz => h z (by simp [hz])) i (by simpa using hi)
      simp only [List.getD_cons_succ, List.sum_cons]
      omega
theorem sum_ge2 (l : List Int) (h : ∀ x ∈ l, 0 ≤ x) (i j : Nat) (hij : i < j) (hj : j < l.length) : l.getD i 0 + l.getD j 0 ≤ l.sum := by
  have h1 := sum_ge (l.eraseIdx j) (fun x hx => h x (List.mem_of_mem_eraseIdx hx)) i (by rw [List.length_eraseIdx]; split <;> omega)
  rw [sum_erase _ _ hj] at h1
  have : (l.eraseIdx j).getD i 0 = l.getD i 0 := by
    rw [List.getD_eq_getElem?_getD, List.getElem?_eraseIdx, if_pos hij, ← List.getD_eq_getElem?_getD]
  omega
structure OkC (cs : List (List Int × Int)) : Prop where
  pos : ∀ c, c ∈ cs → 1 ≤ c.2
  num : cs.length ≤ 1000
  sumN : (cs.map fun c => c.2).sum ≤ 10000000
  sumL : (cs.map fun c => (c.1.length : Int)).sum ≤ 1000
theorem getD_mem {α : Type} (l : List α) (i : Nat) (d : α) (h : i < l.length) : l.getD i d ∈ l := by
  rw [List.getD_eq_getElem?_getD, List.getElem?_eq_getElem h]
  exact List.getElem_mem h
theorem OkC.merge {cs : List (List Int × Int)} (h : OkC cs) (i j : Nat) (hij : i < j) (hj : j < cs.length) : OkC (mergeC cs i j) where
  pos := fun c hc => by
    have := List.mem_of_mem_eraseIdx hc
    rcases List.mem_or_eq_of_mem_set this with e | e
    · exact h.pos c e
    · rw [e]
      have h1 := h.pos _ (getD_mem cs i ([], 0) (by omega))
      have h2 := h.pos _ (getD_mem cs j ([], 0) hj)
      show 1 ≤ (cs.getD i ([], 0)).2 + (cs.getD j ([], 0)).2
      omega
  num := by
    have := h.num
    unfold mergeC
    rw [List.length_eraseIdx, List.length_set]
    split <;> omega
  sumN := by rw [sum_merge _ (fun a b => rfl) cs i j hij hj]; exact h.sumN
  sumL := by rw [sum_merge (fun c => (c.1.length : Int)) (fun a b => by simp) cs i j hij hj]; exact h.sumL
theorem mergeC_length (cs : List (List Int × Int)) (i j : Nat) (hj : j < cs.length) : (mergeC cs i j).length = cs.length - 1 := by
  unfold mergeC
  rw [List.length_eraseIdx, List.length_set, if_pos hj]
theorem OkC.nm {cs : List (List Int × Int)} (h : OkC cs) (i : Nat) (hi : i < cs.length) : 1 ≤ (cs.getD i ([], 0)).2 ∧ (cs.getD i ([], 0)).2 ≤ 10000000 := by
  refine ⟨h.pos _ (getD_mem cs i _ hi), ?_⟩
  have h1 := sum_ge (cs.map fun c => c.2) (by
    intro x hx
    obtain ⟨c, hc, rfl⟩ := List.mem_map.1 hx
    have := h.pos c hc
    omega) i (by simpa using hi)
  have e : (cs.map fun c => c.2).getD i 0 = (cs.getD i ([], 0)).2 := by simp [List.getD_eq_getElem?_getD, hi]
  have := h.sumN
  omega
theorem OkC.lens {cs : List (List Int × Int)} (h : OkC cs) (i j : Nat) (hij : i < j) (hj : j < cs.length) : (cs.getD i ([], 0)).1.length + (cs.getD j ([], 0)).1.length ≤ 1000 := by
  have h1 := sum_ge2 (cs.map fun c => (c.1.length : Int)) (by
    intro x hx
    obtain ⟨c, hc, rfl⟩ := List.mem_map.1 hx
    omega) i j hij (by simpa using hj)
  have e1 : (cs.map fun c => (c.1.length : Int)).getD i 0 = ((cs.getD i ([], 0)).1.length : Int) := by simp [List.getD_eq_getElem?_getD, show i < cs.length by omega]
  have e2 : (cs.map fun c => (c.1.length : Int)).getD j 0 = ((cs.getD j ([], 0)).1.length : Int) := by simp [List.getD_eq_getElem?_getD, hj]
  have := h.sumL
  omega
def mg (cs : List (List Int × Int)) (P : List Nat) : Nat → List (List Int × Int)
  | 0 => cs
  | k + 1 => mergeC (mg cs P k) (P.getD 0 0) (P.getD (k + 1) 0 - k)
end Go.Proofs.Ytckempgpaojljaa.P
end
section
/- The contract of (*choice).step: four clusters of the least level that has as many are joined, if there is one. -/
namespace Go.Proofs.Ytckempgpaojljaa.P
set_option linter.unusedVariables false
set_option linter.unusedSimpArgs false
open Go.RowKit Go.Proofs.YtckempgpaojljaaW.PrintWords Go.Proofs.YtckempgpaojljaaW.PrintLast Go.Proofs.YtckempgpaojljaaW.PrintMore
def kp : Kd (Option Addr) := Kd.scalar Value.pointer (fun _ => rfl)
theorem info77 : (Try.prog.info? 77).map (fun i => (i.zero, i.size, i.bytes)) = some (some (.pointer none), 1, 8) := by kernel_rfl
def StepPost (g : Nat) (xs : List Nd) (n0 : Nat) (w : World) (e : Ending) (w' : World) : Prop := ∃ (r : Bool) (ys : List Nd), e = .returned (.bool r) ∧ LL w' n0 ys ∧ w'.heap[g]? = some (.cells #[.pointer (ptr ys 0)] 79 (0, 0)) ∧ Below n0 w w' ∧
      (match stepC (prs xs) with | none => r = false ∧ prs ys = prs xs | some cs => r = true ∧ prs ys = cs)
theorem cell_blk {W : World} {b : Nat} {cs : Array Value} {t : TypeId} {fr : Nat × Nat} {j : Nat} {v : Value} (h : W.heap[b]? = some (.cells cs t fr)) (hc : W.cell? ⟨b, j, none⟩ = some v) : cs[j]? = some v := by
  simpa [World.cell?, h] using hc
theorem ptr_set {xs : List Nd} {i : Nat} {x z : Nd} (hx : xs[i]? = some x) (hz : z.b = x.b) (k : Nat) : ptr (xs.set i z) k = ptr xs k := by
  have hi : i < xs.length := (List.getElem?_eq_some_iff.1 hx).1
  simp only [ptr, List.getElem?_set]
  split
  · rename_i e
    subst e
    rw [hx]
    simp [hz]
  · rfl
theorem prs_merge {xs : List Nd} {i j : Nat} {x y : Nd} (hx : xs[i]? = some x) (hy : xs[j]? = some y) (z : Nd) (h1 : z.at_ = x.at_ ++ y.at_) (h2 : z.nm = x.nm + y.nm) : prs ((xs.set i z).eraseIdx j) = mergeC (prs xs) i j := by
  unfold mergeC
  rw [prs_get hx, prs_get hy]
  unfold prs
  rw [map_erase, List.map_set, h1, h2]
structure L3 (g gf n0 : Nat) (xs : List Nd) (P : List Nat) (w0 : World) (cs : Array Value) (k : Nat) (W : World) : Prop where
  nodes : ∃ ys, LL W n0 ys ∧ prs ys = mg (prs xs) P k ∧ W.heap[g]? = some (.cells #[.pointer (ptr ys 0)] 79 (0, 0)) ∧ ptr ys (P.getD 0 0) = ptr xs (P.getD 0 0) ∧ (∀ j, k < j → j ≤ 3 → ptr ys (P.getD j 0 - k) = ptr xs (P.getD j 0))
  four : W.heap[gf]? = some (.cells cs 77 (0, 0))
  below : Below n0 w0 W
  ok : OkC (mg (prs xs) P k)
  len : (mg (prs xs) P k).length + k = xs.length
theorem stepC_some {xs : List Nd} {L : Nat} {k : Nat} {P : List Nat} (hL : (L : Int) = idx4 (cnt xs xs.length)) (hP : P = posC (prs xs) (L : Int) k) (h4 : P.length = 4) (hk : k ≤ xs.length) : stepC (prs xs) = some (mg (prs xs) P 3) := by
  have h1 : (posC (prs xs) (L : Int) (prs xs).length).take 4 = P := by
    have := posC_le (prs xs) (L : Int) (show k ≤ (prs xs).length by rw [prs_length]; exact hk)
    rw [← hP] at this
    obtain ⟨t, ht⟩ := this
    rw [← ht, ← h4, List.take_left]
  unfold stepC
  rw [← cnt_all, ← hL, if_neg (by omega), h1]
  match P, h4 with
  | [i0, i1, i2, i3], _ => rfl
theorem sorted_gap {P : List Nat} (h : P.Pairwise (· < ·)) (i j : Nat) (hij : i ≤ j) (hj : j < P.length) : P.getD i 0 + (j - i) ≤ P.getD j 0 := by
  induction j with
  | zero => obtain rfl : i = 0 := by omega
            simp
  | succ j ih =>
    rcases Nat.lt_or_ge i (j + 1) with hl | hl
    · have h1 := ih (by omega) (by omega)
      have h2 : P.getD j 0 < P.getD (j + 1) 0 := by
        have := List.pairwise_iff_getElem.1 h j (j + 1) (by omega) hj (by omega)
        simpa [List.getD_eq_getElem?_getD, hj, show j < P.length by omega] using this
      omega
    · obtain rfl : i = j + 1 := by omega
      simp
theorem keep_join {w w1 : World} {n0 : Nat} {xs : List Nd} {i : Nat} {x : Nd} {v : Value} (h : LL w n0 xs) (hx : xs[i]? = some x) (hg : w.drew.grownBy w1 x.v.ownBlock) {b : Nat} {cs : Array Value} {t : TypeId} (hb : w.heap[b]? = some (.cells cs t (0, 0))) (h3 : t ≠ 3) (h81 : t ≠ 81) (m : Int) :
    (((w1.setCell ⟨x.b, 0, none⟩ v).drew).setCell ⟨x.b, 1, none⟩ (.int .i64 m)).heap[b]? = some (.cells cs t (0, 0)) := by
  have hne : b ≠ x.b := by
    rintro rfl
    have := h.blk i x hx
    rw [hb] at this
    injection this with this
    injection this with _ this
    exact h81 this
  have h1 : w1.heap[b]? = some (.cells cs t (0, 0)) := (hg.block b (hq_lt (W := w.drew) hb) (Kd.R_ne (h.row i x hx) hb (fun e => h3 e.symm))).trans hb
  exact (Below.heap_setCell _ _ _ _ hne).trans ((Below.heap_setCell w1 ⟨x.b, 0, none⟩ v b hne).trans h1)
theorem keep_drop {w : World} {n0 : Nat} {xs : List Nd} {i : Nat} {x : Nd} (h : LL w n0 xs) (hx : xs[i]? = some x) {b : Nat} {cs : Array Value} {t : TypeId} (hb : w.heap[b]? = some (.cells cs t (0, 0))) (h81 : t ≠ 81) (u : Value) :
    (w.setCell ⟨x.b, 2, none⟩ u).heap[b]? = some (.cells cs t (0, 0)) := by
  have hne : b ≠ x.b := by
    rintro rfl
    have := h.blk i x hx
    rw [hb] at this
    injection this with this
    injection this with _ this
    exact h81 this
  exact (Below.heap_setCell _ _ _ _ hne).trans hb
set_option maxRecDepth 100000 in
set_option maxHeartbeats 4000000 in
theorem step44.calls (g : Nat) (xs : List Nd) (n0 : Nat) (w : World) (h : LL w n0 xs) (hok : OkC (prs xs)) (hg : w.heap[g]? = some (.cells #[.pointer (ptr xs 0)] 79 (0, 0))) (hg0 : n0 ≤ g) :
    Calls Try.prog 44 #[.pointer (some ⟨g, 0, none⟩)] w (StepPost g xs n0 w) := by
  have HL := Aside0.mk h
  have HOK := Aside0.mk hok
  have HG := Aside0.mk hg
  have ecg := hq_cell hg 0 _ rfl
  have hgl := hq_lt hg
  clear h hok hg
  have hc1 := cnt_zero xs
  have HC0 := Aside0.mk hc1
  clear hc1
  go_enter Try.func44, Try.ntmps44
  go_wp2
  have hn1 := blk_new w (.cells #[.int .i64 0, .int .i64 0, .int .i64 0, .int .i64 0, .int .i64 0, .int .i64 0, .int .i64 0, .int .i64 0, .int .i64 0, .int .i64 0, .int .i64 0, .int .i64 0, .int .i64 0, .int .i64 0, .int .i64 0, .int .i64 0] 45)
  have hb1 : Below w.heap.size w (w.alloc (.cells #[.int .i64 0, .int .i64 0, .int .i64 0, .int .i64 0, .int .i64 0, .int .i64 0, .int .i64 0, .int .i64 0, .int .i64 0, .int .i64 0, .int .i64 0, .int .i64 0, .int .i64 0, .int .i64 0, .int .i64 0, .int .i64 0] 45)) := (Below.refl _ w).alloc (Nat.le_refl _) _
  have hs1 : (w.alloc (.cells #[.int .i64 0, .int .i64 0, .int .i64 0, .int .i64 0, .int .i64 0, .int .i64 0, .int .i64 0, .int .i64 0, .int .i64 0, .int .i64 0, .int .i64 0, .int .i64 0, .int .i64 0, .int .i64 0, .int .i64 0, .int .i64 0] 45)).heap.size = w.heap.size + 1 := by simp
  generalize (w.alloc (.cells #[.int .i64 0, .int .i64 0, .int .i64 0, .int .i64 0, .int .i64 0, .int .i64 0, .int .i64 0, .int .i64 0, .int .i64 0, .int .i64 0, .int .i64 0, .int .i64 0, .int .i64 0, .int .i64 0, .int .i64 0, .int .i64 0] 45)) = W at hn1 hb1 hs1 ⊢
  obtain ⟨gb, hgb⟩ : ∃ gb, gb = w.heap.size := ⟨_, rfl⟩
  rw [← hgb] at hn1 ⊢
  have HGB := Aside0.mk hgb
  have HN1 := Aside0.mk (show W.heap[gb]? = some (.cells (nums .i64 (cnt xs 0)).toArray 45 (0, 0)) by rw [hn1, HC0.out]; rfl)
  have HB1 := Aside0.mk hb1
  have HS1 := Aside0.mk hs1
  clear hgb hn1 hb1 hs1 ecg
  go_loopg [4] xs.length (fun gk v4 w' => ∃ k : Nat, Aside0 (k + gk = xs.length) ∧ v4 = .pointer (ptr xs k) ∧ Aside0 (w'.heap[gb]? = some (.cells (nums .i64 (cnt xs k)).toArray 45 (0, 0))) ∧ Aside0 (Below w.heap.size w w') ∧ Aside0 (w'.heap.size = w.heap.size + 1))
  case atStart => exact ⟨0, ⟨by omega⟩, rfl, HN1, HB1, HS1⟩
  case round =>
    clear HN1 HB1 HS1
    obtain ⟨k, HK, rfl, HN1, HB1, HS1⟩ := hrel
    have hk : k ≤ xs.length := by have := HK.out; omega
    by_cases hlt : k < xs.length
    · obtain ⟨gk, rfl⟩ : ∃ m, gk = m + 1 := ⟨gk - 1, by have := HK.out; omega⟩
      obtain ⟨x, hx⟩ : ∃ x, xs[k]? = some x := ⟨_, List.getElem?_eq_getElem hlt⟩
      have HX := Aside0.mk hx
      rw [ptr_at hx]
      have hp := HOK.out.nm k (by rw [prs_length]; exact hlt)
      rw [prs_get hx] at hp
      clear hx
      have hlv : ∃ L : Nat, lv x.nm.toNat = (L : Int) ∧ L < 16 := by
        have h1 := lv_lt 14 x.nm.toNat (by omega)
        have h2 := lv_pos x.nm.toNat (by omega)
        have h3 := lv_bd (x.nm.toNat / 4)
        exact ⟨(lv x.nm.toNat).toNat, by omega, by omega⟩
      obtain ⟨L, hL, h16⟩ := hlv
      have HLv := Aside0.mk hL
      clear hL
      go_wp2_with (fail)
      refine (level59 x xs k n0 _ (HL.out.below HB1.out) HX.out (by omega)).mono ?_
      rintro e w1 ⟨rfl, rfl⟩
      rw [HLv.out]
      have hcell : wr.cell? ⟨gb, L, none⟩ = some (.int .i64 (rd (cnt xs k) (L : Int))) := by
        refine hq_cell HN1.out L _ ?_
        simp [nums, rd, cnt_get _ _ _ h16]
      have hfree := blk_free HN1.out L
      have hbd : 0 ≤ rd (cnt xs k) (L : Int) ∧ rd (cnt xs k) (L : Int) ≤ 1000000 := by
        have e : rd (cnt xs k) (L : Int) = (((xs.take k).filter fun x => decide (lv x.nm.toNat = (L : Int))).length : Int) := by
          simp only [rd, Int.toNat_natCast, List.getD_eq_getElem?_getD, cnt_get _ _ _ h16, Option.getD_some]
        rw [e]
        have h1 := List.length_filter_le (fun x : Nd => decide (lv x.nm.toNat = (L : Int))) (xs.take k)
        have h2 : (xs.take k).length ≤ k := by simp; omega
        have h3 := HOK.out.num
        rw [prs_length] at h3
        omega
      obtain ⟨q, hq⟩ : ∃ q, q = rd (cnt xs k) (L : Int) := ⟨_, rfl⟩
      rw [← hq] at hcell hbd
      have HQ := Aside0.mk hq
      obtain ⟨q0, q1⟩ := hbd
      clear hq hp
      have hxb : x.b < gb := by rw [HGB.out]; exact HL.out.lt k x HX.out
      have hn2 : (wr.setCell ⟨gb, L, none⟩ (.int .i64 (q + 1))).heap[gb]? = some (.cells (nums .i64 (cnt xs (k + 1))).toArray 45 (0, 0)) := by
        rw [heap_set_same wr gb L (.int .i64 (q + 1)) _ _ HN1.out, ← cnt_succ xs k L x HX.out HLv.out h16, ← HQ.out]
        simp [nums, List.map_set]
      have hb2 : Below w.heap.size w (wr.setCell ⟨gb, L, none⟩ (.int .i64 (q + 1))) := HB1.out.setCell (p := ⟨gb, L, none⟩) (by show w.heap.size ≤ gb; rw [HGB.out]; exact Nat.le_refl _) _
      have hnx := hq_cell ((hb2.block x.b (HL.out.lt k x HX.out)).trans (HL.out.blk k x HX.out)) 2 _ rfl
      have hs2 : (wr.setCell ⟨gb, L, none⟩ (.int .i64 (q + 1))).heap.size = w.heap.size + 1 := by rw [← HS1.out]; simp [World.setCell]
      have HN2 := Aside0.mk hn2
      have HB2 := Aside0.mk hb2
      have HS2 := Aside0.mk hs2
      clear hn2 hb2 hs2
      go_wp2
      go_roundg gk
      case measure => omega
      case rel => exact ⟨k + 1, ⟨by have := HK.out; omega⟩, rfl, HN2, HB2, HS2⟩
    · have e : ptr xs k = none := by simp [ptr]; omega
      rw [e]
      obtain rfl : k = xs.length := by omega
      clear e hlt hk HK
      have hrd : ReadsInt wr .i64 (some ⟨gb, 0, none⟩) (cnt xs xs.length).length (cnt xs xs.length) := by
        refine ⟨rfl, by rw [cnt_length]; decide, fun _ => ⟨_, rfl, fun j hj => ?_⟩⟩
        rw [add_plain]
        refine hq_cell HN1.out j _ ?_
        simp [nums, List.getD_eq_getElem?_getD, hj]
      have hcon := idx60 (some ⟨gb, 0, none⟩) 16 (cnt xs xs.length) wr hrd (by rw [cnt_length]; decide)
      rw [cnt_length] at hcon
      have HCON := Aside0.mk hcon
      clear hcon hrd
      go_wp2_with (fail)
      refine HCON.out.mono ?_
      rintro e w1 ⟨rfl, rfl⟩
      obtain ⟨lev, hlev⟩ : ∃ lev, lev = idx4 (cnt xs xs.length) := ⟨_, rfl⟩
      rw [← hlev]
      have HLEV := Aside0.mk hlev
      clear hlev
      have HLw := Aside0.mk (HL.out.below HB1.out)
      have HGw := Aside0.mk ((HB1.out.block g hgl).trans HG.out)
      have hn0 : n0 ≤ w.heap.size := by omega
      have hcg := hq_cell HGw.out 0 _ rfl
      clear HCON HN1 HC0
      by_cases hneg : lev < 0
      · go_wp2
        go_ret
        refine ⟨false, xs, rfl, HLw.out, HGw.out, HB1.out.mono hn0, ?_⟩
        have : stepC (prs xs) = none := by
          unfold stepC
          rw [← cnt_all, ← HLEV.out, if_pos hneg]
        rw [this]
        exact ⟨rfl, rfl⟩
      · obtain ⟨L, hL, h16, h4⟩ : ∃ L : Nat, lev = (L : Int) ∧ L < 16 ∧ 4 ≤ (posC (prs xs) (L : Int) xs.length).length := by
          rcases idx4_spec (cnt xs xs.length) with e | ⟨L, e1, e2, e3⟩
          · rw [← HLEV.out] at e; omega
          · rw [cnt_length] at e2
            refine ⟨L, by rw [HLEV.out, e1], e2, ?_⟩
            rw [cnt_all, ← posC_count _ _ e2, prs_length] at e3
            omega
        have H4 := Aside0.mk h4
        subst hL
        clear h4 hneg
        go_wp2
        obtain ⟨w2, hw2⟩ : ∃ w2, w2 = wr := ⟨_, rfl⟩
        subst hw2
        go_loopg [7, 6] xs.length (fun gk v7 v6 w' => ∃ k : Nat, Aside0 (k + gk = xs.length) ∧ v7 = .pointer (ptr xs k) ∧ Aside0 ((posC (prs xs) (L : Int) k).length ≤ 4) ∧ Aside0 (Kd.R kp 77 w' w2.heap.size (fun _ => True) v6 ((posC (prs xs) (L : Int) k).map (ptr xs))) ∧ Aside0 (Below w2.heap.size w2 w'))
        case atStart => exact ⟨0, ⟨by omega⟩, rfl, ⟨by simp [posC]⟩, ⟨Kd.R_nil _ _ _ _ _⟩, ⟨Below.refl _ _⟩⟩
        case round =>
          obtain ⟨k, HK, rfl, HLE, HR6, HBq⟩ := hrel
          obtain ⟨A6, c6, rfl, hc6, hr6⟩ := Kd.R_reads HR6.out
          rw [List.length_map]
          by_cases hgo : k < xs.length ∧ (posC (prs xs) (L : Int) k).length < 4
          · obtain ⟨hlt, hl4⟩ := hgo
            obtain ⟨gk, rfl⟩ : ∃ m, gk = m + 1 := ⟨gk - 1, by have := HK.out; omega⟩
            obtain ⟨x, hx⟩ : ∃ x, xs[k]? = some x := ⟨_, List.getElem?_eq_getElem hlt⟩
            have HX := Aside0.mk hx
            rw [ptr_at hx]
            have hp := HOK.out.nm k (by rw [prs_length]; exact hlt)
            rw [prs_get hx] at hp
            have hnx := hq_cell ((HLw.out.below HBq.out).blk k x hx) 2 _ rfl
            clear hx hr6 hc6
            go_wp2_with (fail)
            refine (level59 x xs k n0 _ (HLw.out.below HBq.out) HX.out (by omega)).mono ?_
            rintro e w1 ⟨rfl, rfl⟩
            obtain ⟨lx, hlx⟩ : ∃ lx, lx = lv x.nm.toNat := ⟨_, rfl⟩
            rw [← hlx]
            have HLX := Aside0.mk hlx
            clear hlx hp
            by_cases heq : lx = (L : Int)
            · have hpos := posC_succ_yes (prs xs) (L : Int) k (by rw [prs_get HX.out]; rw [← heq, HLX.out])
              have HPS := Aside0.mk hpos
              subst heq
              clear hpos
              go_wp2_with (at_builtin; refine Kd.R_append kp (w0 := w2) w2.heap.size rfl (.tmp 49) (.tmp 51) 98 77 (.pointer none) 8 rfl Try.underlying98 info77 rfl (by decide) (by decide) _ ((posC (prs xs) (L : Int) k).map (ptr xs)) (some ⟨x.b, 0, none⟩) [.pointer (some ⟨x.b, 0, none⟩)] (fun _ => True) (fun _ => False) (by rw [List.length_map]; rfl) rfl rfl (fun _ h => h.elim) (fun _ _ => trivial) HR6.out HBq.out HBq.out.size (by rw [List.length_map]; omega) ?_; intro v1 w1 ho hb hg hat; have hnx1 := hq_cell ((hg.block x.b ((HLw.out.below HBq.out).lt k x HX.out) (Kd.R_ne HR6.out ((HLw.out.below HBq.out).blk k x HX.out) (by decide))).trans ((HLw.out.below HBq.out).blk k x HX.out)) 2 _ rfl; have HO1 := Aside0.mk ho; have HB2 := Aside0.mk hb; clear ho hb hg hat)
              go_roundg gk
              case measure => omega
              case rel => exact ⟨k + 1, ⟨by have := HK.out; omega⟩, rfl, ⟨by rw [HPS.out, List.length_append, List.length_singleton]; omega⟩, ⟨by rw [HPS.out, List.map_append, List.map_singleton, ptr_at HX.out]; exact HO1.out⟩, HB2⟩
            · have hpos := posC_succ_no (prs xs) (L : Int) k (by rw [prs_get HX.out, ← HLX.out]; exact heq)
              have HPS := Aside0.mk hpos
              have hqb : (lx == (L : Int)) = false := by simpa using heq
              clear hpos heq
              go_wp2
              go_roundg gk
              case measure => omega
              case rel => exact ⟨k + 1, ⟨by have := HK.out; omega⟩, rfl, ⟨by rw [HPS.out]; exact HLE.out⟩, ⟨by rw [HPS.out]; have := HR6.out; rwa [List.length_map] at this⟩, HBq⟩
          · have hfull : (posC (prs xs) (L : Int) k).length = 4 := by
              have h1 := HLE.out
              have h2 := HK.out
              rcases Nat.lt_or_ge k xs.length with h | h
              · have : ¬ (posC (prs xs) (L : Int) k).length < 4 := fun e => hgo ⟨h, e⟩
                omega
              · have h3 := H4.out
                obtain rfl : k = xs.length := by omega
                omega
            have HF := Aside0.mk hfull
            clear hgo
            rw [hfull]
            obtain ⟨inner, hown⟩ := Kd.R_own HR6.out
            rw [List.length_map, hfull] at hown
            obtain ⟨gf, cap, hv, hgf, hcap⟩ := hown.form (by decide)
            injection hv with hv1 _ hv2
            subst hv1
            subst hv2
            obtain ⟨cs, hcs⟩ := own_typed hown gf (by simp [Value.ownBlock])
            rw [List.length_map, hfull] at hc6 hr6
            obtain ⟨P, hP⟩ : ∃ P, P = posC (prs xs) (L : Int) k := ⟨_, rfl⟩
            rw [← hP] at hr6 hfull
            have hcell : ∀ j, j < 4 → cs[j]? = some (.pointer (ptr xs (P.getD j 0))) := fun j hj => by
              obtain ⟨ad, c, e, _, hK, hc0⟩ := Kd.C_get hr6 none (j : Int) (by omega) (by omega)
              injection e with e
              subst e
              have hK' : c = [.pointer ((P.map (ptr xs)).getD j none)] := hK
              subst hK'
              have h1 := hc0 0 _ rfl
              rw [show (j : Int).toNat * kp.sz + 0 = j by simp [kp, Kd.scalar], add_plain] at h1
              have h2 := cell_blk hcs h1
              rw [h2]
              simp [List.getD_eq_getElem?_getD, show j < P.length by omega]
            have hcap : 4 ≤ c6 := hc6
            have HC := Aside0.mk hcell
            have HCS := Aside0.mk hcs
            have HP := Aside0.mk hP
            have HPL := Aside0.mk hfull
            clear hown hcs hc6 hr6 hP hcell hfull
            have h30 : L3 g gf n0 xs P w2 cs 0 wr := ⟨⟨xs, HLw.out.below HBq.out, rfl, (HBq.out.block g (hq_lt HGw.out)).trans HGw.out, rfl, fun j _ _ => rfl⟩, HCS.out, HBq.out.mono (by have := HS1.out; omega), HOK.out, by simp [mg, prs_length]⟩
            have H30 := Aside0.mk h30
            have hsort : P.Pairwise (· < ·) := by rw [HP.out]; exact posC_sorted _ _ _
            have hlast : P.getD 3 0 < xs.length := by
              have : P.getD 3 0 ∈ P := getD_mem P 3 0 (by have := HPL.out; omega)
              rw [HP.out] at this
              have h1 := (posC_mem this).1
              rw [← HP.out] at h1
              have h2 := HK.out
              omega
            have HSO := Aside0.mk hsort
            have HLA := Aside0.mk hlast
            clear h30 hsort hlast
            by_cases hlt : k < xs.length
            rotate_left
            · have e : ptr xs k = none := by simp [ptr]; omega
              rw [e]
              clear e
              go_wp2
              go_loopg [56] 3 (fun gk v56 w' => ∃ k' : Nat, Aside0 (k' + gk = 3) ∧ v56 = .int .i64 k' ∧ Aside0 (L3 g gf n0 xs P w2 cs k' w'))
              case atStart => exact ⟨0, ⟨by omega⟩, rfl, H30⟩
              case round =>
                clear hlt
                obtain ⟨k', HK', rfl, H3⟩ := hrel
                by_cases hk3 : k' < 3
                · obtain ⟨gk, rfl⟩ : ∃ m, gk = m + 1 := ⟨gk - 1, by have := HK'.out; omega⟩
                  obtain ⟨ys, hL, hprs, hgp, hp0, hpj⟩ := H3.out.nodes
                  have hylen : ys.length + k' = xs.length := by have := H3.out.len; rw [← hprs, prs_length] at this; exact this
                  have hg1 := sorted_gap HSO.out 0 (k' + 1) (by omega) (by have := HPL.out; omega)
                  have hg2 := sorted_gap HSO.out (k' + 1) 3 (by omega) (by have := HPL.out; omega)
                  have hla := HLA.out
                  obtain ⟨j', hj'⟩ : ∃ j', P.getD (k' + 1) 0 - k' = j' + 1 := ⟨P.getD (k' + 1) 0 - k' - 1, by omega⟩
                  obtain ⟨i0, hi0⟩ : ∃ i0, P.getD 0 0 = i0 := ⟨_, rfl⟩
                  have hij : i0 < j' + 1 := by omega
                  have hjl : j' + 1 < ys.length := by omega
                  obtain ⟨x0, hx0⟩ : ∃ x, ys[i0]? = some x := ⟨_, List.getElem?_eq_getElem (by omega)⟩
                  obtain ⟨y0, hy0⟩ : ∃ x, ys[j' + 1]? = some x := ⟨_, List.getElem?_eq_getElem hjl⟩
                  have hc0 : wr.cell? ⟨gf, 0, none⟩ = some (.pointer (some ⟨x0.b, 0, none⟩)) := by
                    refine hq_cell H3.out.four 0 _ ?_
                    rw [HC.out 0 (by omega), ← hp0, hi0, ptr_at hx0]
                  have hc1 : wr.cell? ⟨gf, 1 + k', none⟩ = some (.pointer (some ⟨y0.b, 0, none⟩)) := by
                    refine hq_cell H3.out.four (1 + k') _ ?_
                    rw [show 1 + k' = k' + 1 by omega, HC.out (k' + 1) (by omega), ← hpj (k' + 1) (by omega) (by omega), hj', ptr_at hy0]
                  have hokc := H3.out.ok
                  rw [← hprs] at hokc
                  have hnx := hokc.nm i0 (by rw [prs_length]; omega)
                  have hny := hokc.nm (j' + 1) (by rw [prs_length]; omega)
                  have hle := hokc.lens i0 (j' + 1) hij (by rw [prs_length]; omega)
                  rw [prs_get hx0] at hnx hle
                  rw [prs_get hy0] at hny hle
                  have HLY := Aside0.mk hL
                  have HX0 := Aside0.mk hx0
                  have HY0 := Aside0.mk hy0
                  have HGP := Aside0.mk hgp
                  have HPRS := Aside0.mk hprs
                  have HP0 := Aside0.mk hp0
                  have HPJ := Aside0.mk hpj
                  have HJ' := Aside0.mk hj'
                  have HI0 := Aside0.mk hi0
                  have HYL := Aside0.mk hylen
                  have HOKC := Aside0.mk hokc
                  have HLE2 := Aside0.mk hle
                  have HG1 := Aside0.mk hg1
                  have HG2 := Aside0.mk hg2
                  have hn0r : n0 ≤ wr.heap.size := Nat.le_trans (Nat.le_trans hg0 (Nat.le_of_lt (hq_lt hgp))) (Nat.le_refl _)
                  clear hL hx0 hy0 hgp hprs hp0 hpj hj' hi0 hylen hokc hle hg1 hg2 hla
                  go_wp2_with (fail)
                  refine (take62.calls ys i0 (j' + 1) x0 y0 n0 _ HLY.out hij HX0.out HY0.out (by have := HLE2.out; omega) (by omega) hn0r).mono ?_
                  rintro e w1 ⟨rfl, v, w3, hgr, hat, hrr, rfl⟩
                  have hL1 := HLY.out.taken (j := 0) (y := x0) HX0.out y0.at_ hgr hat hrr (x0.nm + y0.nm)
                  have hgp1 := keep_join HLY.out HX0.out (v := v) hgr HGP.out (by decide) (by decide) (x0.nm + y0.nm)
                  have hgf1 := keep_join HLY.out HX0.out (v := v) hgr H3.out.four (by decide) (by decide) (x0.nm + y0.nm)
                  have hb1 : Below n0 wr (((w3.setCell ⟨x0.b, 0, none⟩ v).drew).setCell ⟨x0.b, 1, none⟩ (.int .i64 (x0.nm + y0.nm))) := by
                    have h1 : Below n0 wr w3 := ((Below.refl n0 wr).drew).grown hgr hn0r (fun q hq => by
                      obtain ⟨_, inner, ho, _⟩ := HLY.out.row i0 x0 HX0.out
                      exact own_base ho q hq)
                    have h2 := h1.setCell (p := ⟨x0.b, 0, none⟩) (HLY.out.lo i0 x0 HX0.out) v
                    exact h2.drew.setCell (p := ⟨x0.b, 1, none⟩) (HLY.out.lo i0 x0 HX0.out) _
                  generalize ((w3.setCell ⟨x0.b, 0, none⟩ v).drew).setCell ⟨x0.b, 1, none⟩ (.int .i64 (x0.nm + y0.nm)) = w6 at hL1 hgp1 hgf1 hb1 ⊢
                  have HL1 := Aside0.mk hL1
                  have HGP1 := Aside0.mk hgp1
                  have HGF1 := Aside0.mk hgf1
                  have HB6 := Aside0.mk hb1
                  clear hL1 hgp1 hgf1 hb1 hgr hat hrr hc0 hc1
                  go_wp2_with (fail)
                  obtain ⟨zs, hzs⟩ : ∃ zs, zs = ys.set i0 ⟨x0.b, v, x0.at_ ++ y0.at_, x0.nm + y0.nm⟩ := ⟨_, rfl⟩
                  have hzl : zs.length = ys.length := by rw [hzs]; simp
                  obtain ⟨u0, hu0⟩ : ∃ x, zs[j']? = some x := ⟨_, List.getElem?_eq_getElem (by omega)⟩
                  have hy1 : zs[j' + 1]? = some y0 := by rw [hzs, List.getElem?_set, if_neg (by omega)]; exact HY0.out
                  have hpz : ∀ q, ptr zs q = ptr ys q := fun q => by rw [hzs]; exact ptr_set (z := ⟨x0.b, v, x0.at_ ++ y0.at_, x0.nm + y0.nm⟩) HX0.out rfl q
                  refine (drop63 g zs j' u0 y0 n0 _ (by rw [hzs]; exact HL1.out) hu0 hy1 (by rw [hpz]; exact HGP1.out)).mono ?_
                  rintro e w7 ⟨rfl, rfl⟩
                  have hL7 := (show LL w6 n0 zs by rw [hzs]; exact HL1.out).dropped hu0 hy1
                  have hgp7 := keep_drop (show LL w6 n0 zs by rw [hzs]; exact HL1.out) hu0 HGP1.out (by decide) (.pointer (ptr zs (j' + 2)))
                  have hgf7 := keep_drop (show LL w6 n0 zs by rw [hzs]; exact HL1.out) hu0 HGF1.out (by decide) (.pointer (ptr zs (j' + 2)))
                  have hb7 : Below n0 w2 (w6.setCell ⟨u0.b, 2, none⟩ (.pointer (ptr zs (j' + 2)))) := (H3.out.below.trans HB6.out).setCell (p := ⟨u0.b, 2, none⟩) ((show LL w6 n0 zs by rw [hzs]; exact HL1.out).lo j' u0 hu0) _
                  generalize w6.setCell ⟨u0.b, 2, none⟩ (.pointer (ptr zs (j' + 2))) = w8 at hL7 hgp7 hgf7 hb7 ⊢
                  have hmg : mg (prs xs) P (k' + 1) = mergeC (prs ys) i0 (j' + 1) := by
                    show mergeC (mg (prs xs) P k') (P.getD 0 0) (P.getD (k' + 1) 0 - k') = _
                    rw [HI0.out, HJ'.out, HPRS.out]
                  have hp7 : prs (zs.eraseIdx (j' + 1)) = mg (prs xs) P (k' + 1) := by
                    rw [hmg, hzs]
                    exact prs_merge HX0.out HY0.out _ rfl rfl
                  have h3' : L3 g gf n0 xs P w2 cs (k' + 1) w8 := by
                    refine ⟨⟨zs.eraseIdx (j' + 1), hL7, hp7, ?_, ?_, fun q hq1 hq2 => ?_⟩, hgf7, hb7, ?_, ?_⟩
                    · rw [ptr_erase 0 (by omega), if_pos (by omega), hpz]
                      exact hgp7
                    · rw [HI0.out, ptr_erase i0 (by omega), if_pos hij, hpz, ← HI0.out]
                      exact HP0.out
                    · have hg3 := sorted_gap HSO.out (k' + 1) q (by omega) (by have := HPL.out; omega)
                      have h5 := HJ'.out
                      rw [ptr_erase_ge _ (by omega), hpz, ← HPJ.out q (by omega) hq2]
                      congr 1
                      omega
                    · rw [hmg]
                      exact HOKC.out.merge i0 (j' + 1) hij (by rw [prs_length]; exact hjl)
                    · rw [hmg, mergeC_length _ _ _ (by rw [prs_length]; exact hjl), prs_length]
                      have := HYL.out
                      omega
                  have H3' := Aside0.mk h3'
                  clear hL7 hgp7 hgf7 hb7 hmg hp7 h3' hu0 hy1 hpz hzl hzs
                  go_wp2
                  go_roundg gk
                  case measure => omega
                  case rel => exact ⟨k' + 1, ⟨by have := HK'.out; omega⟩, by go_num, H3'⟩
                · obtain rfl : k' = 3 := by have := HK'.out; omega
                  go_wp2
                  go_ret
                  obtain ⟨ys, hL, hprs, hgp, hp0, hpj⟩ := H3.out.nodes
                  refine ⟨true, ys, rfl, hL, hgp, (HB1.out.mono hn0).trans H3.out.below, ?_⟩
                  have hst : stepC (prs xs) = some (mg (prs xs) P 3) := stepC_some HLEV.out HP.out HPL.out (by have := HK.out; omega)
                  rw [hst]
                  exact ⟨rfl, hprs⟩
            · obtain ⟨x, hx⟩ : ∃ x, xs[k]? = some x := ⟨_, List.getElem?_eq_getElem hlt⟩
              rw [ptr_at hx]
              clear hx
              go_wp2
              go_loopg [56] 3 (fun gk v56 w' => ∃ k' : Nat, Aside0 (k' + gk = 3) ∧ v56 = .int .i64 k' ∧ Aside0 (L3 g gf n0 xs P w2 cs k' w'))
              case atStart => exact ⟨0, ⟨by omega⟩, rfl, H30⟩
              case round =>
                clear hlt
                obtain ⟨k', HK', rfl, H3⟩ := hrel
                by_cases hk3 : k' < 3
                · obtain ⟨gk, rfl⟩ : ∃ m, gk = m + 1 := ⟨gk - 1, by have := HK'.out; omega⟩
                  obtain ⟨ys, hL, hprs, hgp, hp0, hpj⟩ := H3.out.nodes
                  have hylen : ys.length + k' = xs.length := by have := H3.out.len; rw [← hprs, prs_length] at this; exact this
                  have hg1 := sorted_gap HSO.out 0 (k' + 1) (by omega) (by have := HPL.out; omega)
                  have hg2 := sorted_gap HSO.out (k' + 1) 3 (by omega) (by have := HPL.out; omega)
                  have hla := HLA.out
                  obtain ⟨j', hj'⟩ : ∃ j', P.getD (k' + 1) 0 - k' = j' + 1 := ⟨P.getD (k' + 1) 0 - k' - 1, by omega⟩
                  obtain ⟨i0, hi0⟩ : ∃ i0, P.getD 0 0 = i0 := ⟨_, rfl⟩
                  have hij : i0 < j' + 1 := by omega
                  have hjl : j' + 1 < ys.length := by omega
                  obtain ⟨x0, hx0⟩ : ∃ x, ys[i0]? = some x := ⟨_, List.getElem?_eq_getElem (by omega)⟩
                  obtain ⟨y0, hy0⟩ : ∃ x, ys[j' + 1]? = some x := ⟨_, List.getElem?_eq_getElem hjl⟩
                  have hc0 : wr.cell? ⟨gf, 0, none⟩ = some (.pointer (some ⟨x0.b, 0, none⟩)) := by
                    refine hq_cell H3.out.four 0 _ ?_
                    rw [HC.out 0 (by omega), ← hp0, hi0, ptr_at hx0]
                  have hc1 : wr.cell? ⟨gf, 1 + k', none⟩ = some (.pointer (some ⟨y0.b, 0, none⟩)) := by
                    refine hq_cell H3.out.four (1 + k') _ ?_
                    rw [show 1 + k' = k' + 1 by omega, HC.out (k' + 1) (by omega), ← hpj (k' + 1) (by omega) (by omega), hj', ptr_at hy0]
                  have hokc := H3.out.ok
                  rw [← hprs] at hokc
                  have hnx := hokc.nm i0 (by rw [prs_length]; omega)
                  have hny := hokc.nm (j' + 1) (by rw [prs_length]; omega)
                  have hle := hokc.lens i0 (j' + 1) hij (by rw [prs_length]; omega)
                  rw [prs_get hx0] at hnx hle
                  rw [prs_get hy0] at hny hle
                  have HLY := Aside0.mk hL
                  have HX0 := Aside0.mk hx0
                  have HY0 := Aside0.mk hy0
                  have HGP := Aside0.mk hgp
                  have HPRS := Aside0.mk hprs
                  have HP0 := Aside0.mk hp0
                  have HPJ := Aside0.mk hpj
                  have HJ' := Aside0.mk hj'
                  have HI0 := Aside0.mk hi0
                  have HYL := Aside0.mk hylen
                  have HOKC := Aside0.mk hokc
                  have HLE2 := Aside0.mk hle
                  have HG1 := Aside0.mk hg1
                  have HG2 := Aside0.mk hg2
                  have hn0r : n0 ≤ wr.heap.size := Nat.le_trans (Nat.le_trans hg0 (Nat.le_of_lt (hq_lt hgp))) (Nat.le_refl _)
                  clear hL hx0 hy0 hgp hprs hp0 hpj hj' hi0 hylen hokc hle hg1 hg2 hla
                  go_wp2_with (fail)
                  refine (take62.calls ys i0 (j' + 1) x0 y0 n0 _ HLY.out hij HX0.out HY0.out (by have := HLE2.out; omega) (by omega) hn0r).mono ?_
                  rintro e w1 ⟨rfl, v, w3, hgr, hat, hrr, rfl⟩
                  have hL1 := HLY.out.taken (j := 0) (y := x0) HX0.out y0.at_ hgr hat hrr (x0.nm + y0.nm)
                  have hgp1 := keep_join HLY.out HX0.out (v := v) hgr HGP.out (by decide) (by decide) (x0.nm + y0.nm)
                  have hgf1 := keep_join HLY.out HX0.out (v := v) hgr H3.out.four (by decide) (by decide) (x0.nm + y0.nm)
                  have hb1 : Below n0 wr (((w3.setCell ⟨x0.b, 0, none⟩ v).drew).setCell ⟨x0.b, 1, none⟩ (.int .i64 (x0.nm + y0.nm))) := by
                    have h1 : Below n0 wr w3 := ((Below.refl n0 wr).drew).grown hgr hn0r (fun q hq => by
                      obtain ⟨_, inner, ho, _⟩ := HLY.out.row i0 x0 HX0.out
                      exact own_base ho q hq)
                    have h2 := h1.setCell (p := ⟨x0.b, 0, none⟩) (HLY.out.lo i0 x0 HX0.out) v
                    exact h2.drew.setCell (p := ⟨x0.b, 1, none⟩) (HLY.out.lo i0 x0 HX0.out) _
                  generalize ((w3.setCell ⟨x0.b, 0, none⟩ v).drew).setCell ⟨x0.b, 1, none⟩ (.int .i64 (x0.nm + y0.nm)) = w6 at hL1 hgp1 hgf1 hb1 ⊢
                  have HL1 := Aside0.mk hL1
                  have HGP1 := Aside0.mk hgp1
                  have HGF1 := Aside0.mk hgf1
                  have HB6 := Aside0.mk hb1
                  clear hL1 hgp1 hgf1 hb1 hgr hat hrr hc0 hc1
                  go_wp2_with (fail)
                  obtain ⟨zs, hzs⟩ : ∃ zs, zs = ys.set i0 ⟨x0.b, v, x0.at_ ++ y0.at_, x0.nm + y0.nm⟩ := ⟨_, rfl⟩
                  have hzl : zs.length = ys.length := by rw [hzs]; simp
                  obtain ⟨u0, hu0⟩ : ∃ x, zs[j']? = some x := ⟨_, List.getElem?_eq_getElem (by omega)⟩
                  have hy1 : zs[j' + 1]? = some y0 := by rw [hzs, List.getElem?_set, if_neg (by omega)]; exact HY0.out
                  have hpz : ∀ q, ptr zs q = ptr ys q := fun q => by rw [hzs]; exact ptr_set (z := ⟨x0.b, v, x0.at_ ++ y0.at_, x0.nm + y0.nm⟩) HX0.out rfl q
                  refine (drop63 g zs j' u0 y0 n0 _ (by rw [hzs]; exact HL1.out) hu0 hy1 (by rw [hpz]; exact HGP1.out)).mono ?_
                  rintro e w7 ⟨rfl, rfl⟩
                  have hL7 := (show LL w6 n0 zs by rw [hzs]; exact HL1.out).dropped hu0 hy1
                  have hgp7 := keep_drop (show LL w6 n0 zs by rw [hzs]; exact HL1.out) hu0 HGP1.out (by decide) (.pointer (ptr zs (j' + 2)))
                  have hgf7 := keep_drop (show LL w6 n0 zs by rw [hzs]; exact HL1.out) hu0 HGF1.out (by decide) (.pointer (ptr zs (j' + 2)))
                  have hb7 : Below n0 w2 (w6.setCell ⟨u0.b, 2, none⟩ (.pointer (ptr zs (j' + 2)))) := (H3.out.below.trans HB6.out).setCell (p := ⟨u0.b, 2, none⟩) ((show LL w6 n0 zs by rw [hzs]; exact HL1.out).lo j' u0 hu0) _
                  generalize w6.setCell ⟨u0.b, 2, none⟩ (.pointer (ptr zs (j' + 2))) = w8 at hL7 hgp7 hgf7 hb7 ⊢
                  have hmg : mg (prs xs) P (k' + 1) = mergeC (prs ys) i0 (j' + 1) := by
                    show mergeC (mg (prs xs) P k') (P.getD 0 0) (P.getD (k' + 1) 0 - k') = _
                    rw [HI0.out, HJ'.out, HPRS.out]
                  have hp7 : prs (zs.eraseIdx (j' + 1)) = mg (prs xs) P (k' + 1) := by
                    rw [hmg, hzs]
                    exact prs_merge HX0.out HY0.out _ rfl rfl
                  have h3' : L3 g gf n0 xs P w2 cs (k' + 1) w8 := by
                    refine ⟨⟨zs.eraseIdx (j' + 1), hL7, hp7, ?_, ?_, fun q hq1 hq2 => ?_⟩, hgf7, hb7, ?_, ?_⟩
                    · rw [ptr_erase 0 (by omega), if_pos (by omega), hpz]
                      exact hgp7
                    · rw [HI0.out, ptr_erase i0 (by omega), if_pos hij, hpz, ← HI0.out]
                      exact HP0.out
                    · have hg3 := sorted_gap HSO.out (k' + 1) q (by omega) (by have := HPL.out; omega)
                      have h5 := HJ'.out
                      rw [ptr_erase_ge _ (by omega), hpz, ← HPJ.out q (by omega) hq2]
                      congr 1
                      omega
                    · rw [hmg]
                      exact HOKC.out.merge i0 (j' + 1) hij (by rw [prs_length]; exact hjl)
                    · rw [hmg, mergeC_length _ _ _ (by rw [prs_length]; exact hjl), prs_length]
                      have := HYL.out
                      omega
                  have H3' := Aside0.mk h3'
                  clear hL7 hgp7 hgf7 hb7 hmg hp7 h3' hu0 hy1 hpz hzl hzs
                  go_wp2
                  go_roundg gk
                  case measure => omega
                  case rel => exact ⟨k' + 1, ⟨by have := HK'.out; omega⟩, by go_num, H3'⟩
                · obtain rfl : k' = 3 := by have := HK'.out; omega
                  go_wp2
                  go_ret
                  obtain ⟨ys, hL, hprs, hgp, hp0, hpj⟩ := H3.out.nodes
                  refine ⟨true, ys, rfl, hL, hgp, (HB1.out.mono hn0).trans H3.out.below, ?_⟩
                  have hst : stepC (prs xs) = some (mg (prs xs) P 3) := stepC_some HLEV.out HP.out HPL.out (by have := HK.out; omega)
                  rw [hst]
                  exact ⟨rfl, hprs⟩
end Go.Proofs.Ytckempgpaojljaa.P
end
