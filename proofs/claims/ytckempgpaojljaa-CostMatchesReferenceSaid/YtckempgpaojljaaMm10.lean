/- The row of the law CostMatchesReference, out of its walk. -/
import Derived.Test.YtckempgpaojljaaMm9
import Derived.Test.YtckempgpaojljaaMm1
import Derived.Test.YtckempgpaojljaaMm5
import Derived.SizedLaws
import Derived.Test.YtckempgpaojljaaRows
import Derived.WalkKit
import Derived.ProofKit
import Derived.OpenShut
import Derived.ShutString
import Derived.ChangeOld
import Derived.Below
section
/- The walk of the law CostMatchesReference. -/
namespace Go.Proofs.Ytckempgpaojljaa.P
set_option linter.unusedVariables false
set_option linter.unusedSimpArgs false
open Go.RowKit Go.Proofs.YtckempgpaojljaaW.PrintWords Go.Proofs.YtckempgpaojljaaW.PrintLast Go.Proofs.YtckempgpaojljaaW.PrintMore
attribute [local go_sem] Oper.semAt_some
theorem litP3 (W : World) {A B E : Option Addr} {c d f : Nat} {l z m : List S43} (hl : l.length ≤ c) (hz : z.length ≤ d) (hm : m.length ≤ f) (cl : Kd.C k43 W A l.length l) (cz : Kd.C k43 W B z.length z) (cm : Kd.C k43 W E m.length m) : Kd.C (Kd.slice 43 k43) (W.alloc (.cells #[.slice A l.length c, .slice B z.length d, .slice E m.length f] 23)) (some ⟨W.heap.size, 0, none⟩) 3 [l, z, m] := by
  refine ⟨rfl, by decide, fun _ => ⟨_, rfl, fun j p hp => ?_⟩⟩
  have hn := heap_alloc_new W (.cells #[.slice A l.length c, .slice B z.length d, .slice E m.length f] 23 (0, 0))
  match j, hp with
  | 0, hp =>
    cases hp
    refine ⟨[.slice A l.length c], rfl, ⟨A, c, rfl, hl, Kd.C_alloc cl _⟩, fun i u hu => ?_⟩
    match i, hu with
    | 0, hu => cases hu; exact hq_cell hn 0 _ rfl
  | 1, hp =>
    cases hp
    refine ⟨[.slice B z.length d], rfl, ⟨B, d, rfl, hz, Kd.C_alloc cz _⟩, fun i u hu => ?_⟩
    match i, hu with
    | 0, hu => cases hu; exact hq_cell hn 1 _ rfl
  | 2, hp =>
    cases hp
    refine ⟨[.slice E m.length f], rfl, ⟨E, f, rfl, hm, Kd.C_alloc cm _⟩, fun i u hu => ?_⟩
    match i, hu with
    | 0, hu => cases hu; exact hq_cell hn 2 _ rfl
def match3.T22 : Bool × List (List Nat × List Nat) := (true, [([], []), ([], []), ([], []), ([1, 2], [1, 2]), ([3], [3]), ([0, 4], [0, 4]), ([], []), ([], []), ([], []), ([7, 8], [7, 8]), ([9], [9]), ([6, 10, 5], [6, 10]), ([5, 11, 11], [5, 11]), ([12], [12]), ([13, 12], [13]), ([14], [14]), ([14], [14]), ([15, 16, 14, 14], [14, 15, 16]), ([14], [14]), ([14], [14]), ([18, 19, 17, 14], [14, 18, 19]), ([17, 20, 20, 14], [14, 17, 20]), ([21, 14], [14, 21]), ([14, 22], [14, 22])])
def match3.B22 : List Nat := [0, 0, 0, 6, 14, 31, 0, 0, 0, 384, 896, 2047, 4095, 8191, 16383, 32767, 32767, 131071, 32767, 32767, 1048575, 2097151, 4194303, 8388607]
theorem match3.tab22 : rtab .any (opsOf Try.f3 22) = match3.T22 := by kernel_rfl
theorem match3.bits22 : waitsOk match3.T22.2 match3.B22 = true := by kernel_rfl
def match3.T27 : Bool × List (List Nat × List Nat) := (true, [([], []), ([], []), ([0, 1], [0, 1]), ([2], [2]), ([3], [3]), ([4], [4]), ([], []), ([], []), ([6, 7], [6, 7]), ([8], [8]), ([9], [9]), ([10, 5], [10]), ([5, 11], [5, 11]), ([12, 11], [12]), ([13], [13]), ([13], [13]), ([13], [13]), ([15, 16, 13], [13, 15, 16]), ([17, 13], [13, 17]), ([18, 13], [13, 18]), ([14, 19, 13, 13], [13, 14, 19]), ([13], [13]), ([13], [13]), ([13], [13]), ([22, 23, 13], [13, 22, 23]), ([24, 13], [13, 24]), ([25, 13], [13, 25]), ([21, 26, 20, 13], [13, 21, 26]), ([20, 27, 27, 13], [13, 20, 27]), ([28, 13], [13, 28]), ([13, 29], [13, 29])])
def match3.B27 : List Nat := [0, 0, 3, 7, 15, 31, 0, 0, 192, 448, 960, 2047, 4095, 8191, 16383, 16383, 16383, 114687, 245759, 507903, 1048575, 16383, 16383, 16383, 12599295, 29376511, 62930943, 134217727, 268435455, 536870911, 1073741823]
theorem match3.tab27 : rtab .any (opsOf Try.f3 27) = match3.T27 := by kernel_rfl
theorem match3.bits27 : waitsOk match3.T27.2 match3.B27 = true := by kernel_rfl
set_option maxHeartbeats 8000000 in
set_option maxRecDepth 100000 in
theorem match3 (A : Option Addr) (c : Nat) (x : List S50) (B : Option Addr) (d : Nat) (z : List S43) (E : Option Addr) (f : Nat) (g : List (List Int)) (w : World) (hr : Kd.C k50 w A x.length x) (hc : x.length ≤ c) (hb : bytes2 x)
    (hrz : Kd.C k43 w B z.length z) (hd : z.length ≤ d) (hz1 : z.length ≤ 1000000000000000) (hzb : ∀ p ∈ z, p.f0 ≤ 9223372036854775807) (hrg : Kd.C (Kd.slice 3 (Kd.int .i64)) w E g.length g) (hf : g.length ≤ f) (hg1 : g.length ≤ 1000000000000000) (hgi : ∀ a ∈ g, a.length ≤ 1000000000000000) :
    Calls Try.prog 3 #[.slice A x.length c, .slice B z.length d, .slice E g.length f] w fun e w' => e = .returned (.bool true) ∧ Below w.heap.size w w' := by
  have HR := Aside0.mk hr
  have HRZ := Aside0.mk hrz
  have HRG := Aside0.mk hrg
  have HBY := Aside0.mk hb
  have HZB := Aside0.mk hzb
  have HGI0 := Aside0.mk hgi
  have hml := madeL_len x
  clear hr hrz hrg hb hzb hgi
  go_enter Try.func3, Try.ntmps3
  go_wp2_with (fail)
  refine (examples9 w).mono ?_
  rintro e w1 ⟨rfl, hb⟩
  have HB1 := Aside0.mk hb
  have HG1 := Aside0.mk (Kd.C_below HRG.out hb)
  clear hb
  go_wp2
  go_loopw [9, 8] (fun v9 v8 w' => ∃ (i : Nat) (n : Int), i ≤ g.length ∧ v9 = .int .i64 i ∧ v8 = .int .i64 n ∧ 0 ≤ n ∧ n ≤ 3000000000000000 ∧ Aside0 (n = z.length + g.length + psum (fun a : List Int => (a.length : Int)) g i) ∧ Aside0 (Below w1.heap.size w1 w')) (fun v9 _ _ => g.length - (intOf v9).toNat)
  case atStart => exact ⟨0, _, by omega, rfl, rfl, by omega, by omega, ⟨by rw [psum_zero]; omega⟩, ⟨Below.refl _ _⟩⟩
  case round =>
    obtain ⟨i, n, hi, rfl, rfl, n0, n1, HN, HB⟩ := hrel
    have HB2 := Aside0.mk (below_step HB1.out HB.out)
    by_cases hlt : i < g.length ∧ n ≤ 60
    · obtain ⟨hlt, hn60⟩ := hlt
      obtain ⟨gk, hgk⟩ : ∃ a, g[i]? = some a := ⟨_, List.getElem?_eq_getElem hlt⟩
      obtain ⟨adG, A0, c0, rfl, hcg, hgc, _⟩ := rr_read (Kd.C_below HG1.out HB.out) i hlt hgk
      have hgl := HGI0.out gk (List.mem_of_getElem? hgk)
      have hps := psum_succ (fun a : List Int => (a.length : Int)) g i gk hgk
      have HPS := Aside0.mk hps
      clear hgk hps
      go_wp2
      clear hcg
      go_roundw
      case rel => exact ⟨i + 1, n + gk.length, by omega, by go_num, by go_num, by omega, by omega, ⟨by rw [HPS.out, HN.out]; omega⟩, HB⟩
      case measure => simp [intOf]; omega
    · by_cases hn60 : 60 < n
      · by_cases hig : i < g.length
        · go_wp2
          go_ret
          exact ⟨rfl, HB2.out⟩
        · go_wp2
          go_ret
          exact ⟨rfl, HB2.out⟩
      · obtain rfl : i = g.length := by omega
        have hn := HN.out
        rw [psum_all] at hn
        have hsum := sum_ge (g.map fun a : List Int => (a.length : Int)) (fun x hx => by obtain ⟨a, _, rfl⟩ := List.mem_map.1 hx; omega)
        have HGI : Aside0 (∀ a ∈ g, a.length ≤ 1000000) := ⟨fun a ha => by
          obtain ⟨j, hj, rfl⟩ := List.getElem_of_mem ha
          have := hsum j (by rw [List.length_map]; exact hj)
          have e : (g.map fun a : List Int => (a.length : Int)).getD j 0 = (g[j].length : Int) := by simp [List.getD_eq_getElem?_getD, hj]
          rw [e] at this
          omega⟩
        have hs0 := (psum_bd (fun a : List Int => (a.length : Int)) g 1000000000000000 (fun a ha => by have := HGI0.out a ha; omega) g.length (Nat.le_refl _)).1
        rw [psum_all] at hs0
        have hzl : z.length ≤ 60 := by omega
        have hgl : g.length ≤ 60 := by omega
        clear hsum hn hs0
        have HRZ2 := Aside0.mk (Kd.C_below HRZ.out HB2.out)
        have HRG2 := Aside0.mk (Kd.C_below HRG.out HB2.out)
        have HR2 := Aside0.mk (Kd.C_below HR.out HB2.out)
        clear HRZ HRG HR HG1 HB1 HN
        go_wp2_with (fail)
        refine (made10 A c x wr HR2.out hc HBY.out).mono ?_
        rintro e w2 ⟨v, rfl, hM, hb⟩
        obtain ⟨Am, cm, e, hcm, hCM⟩ := Kd.R_reads hM
        subst e
        have HCL := Aside0.mk hCM
        have HBM := Aside0.mk (below_step HB2.out hb)
        have HCZ := Aside0.mk (Kd.C_below HRZ2.out hb)
        have HCG := Aside0.mk (Kd.C_below HRG2.out hb)
        clear hM hb hCM HR2 HRZ2 HRG2 HB2 HB
        generalize madeL x = l at *
        have HBE : Aside0 (Below w2.heap.size w2 (w2.alloc (.cells #[] 43))) := ⟨below_alloc (Below.refl _ _) _⟩
        have HE : Aside0 (Kd.R k43 43 (w2.alloc (.cells #[] 43)) w2.heap.size (fun _ => True) (.slice (some ⟨w2.heap.size, 0, none⟩) 0 0) []) := ⟨R_zero _ _ _ _ _ (Nat.le_refl _) trivial⟩
        go_wp2_with (first
          | (at_builtin; refine Kd.R_append_rows k43 (Rr := k43.K (w2.alloc (.cells #[] 43))) (w0 := w2) w2.heap.size rfl (.tmp 48) (.tmp 49) 23 43 (.agg #[.int .i64 0, .int .i64 0]) 16 rfl Try.underlying23 info43 rfl (by decide) (by decide) _ [] l Am l.length cm (fun _ => True) (fun _ => False) rfl rfl HE.out (Kd.C_alloc HCL.out _) ?aK (fun _ hk => hk.elim) (fun _ _ => trivial) HBE.out HBE.out.size ?aL ?_; (case aK => intro x cs h; obtain ⟨c0, c1, e, h0, h1⟩ := h; exact ⟨c0, c1, e, h0, h1⟩); (case aL => simp; omega); intro v1 w5 ho hb hg5 hat; have HO5 : Aside0 (Kd.R k43 43 w5 w2.heap.size (fun _ => True) v1 l) := ⟨ho⟩; have HB5 := Aside0.mk hb; clear ho hb hg5 hat)
          | (at_builtin; refine Kd.R_append_rows k43 (Rr := k43.K w5) (w0 := w2) w2.heap.size rfl (.tmp 50) (.tmp 51) 23 43 (.agg #[.int .i64 0, .int .i64 0]) 16 rfl Try.underlying23 info43 rfl (by decide) (by decide) _ l z B z.length d (fun _ => True) (fun _ => False) rfl rfl HO5.out (Kd.C_below HCZ.out HB5.out) ?aK (fun _ hk => hk.elim) (fun _ _ => trivial) HB5.out HB5.out.size ?aL ?_; (case aK => intro x cs h; obtain ⟨c0, c1, e, h0, h1⟩ := h; exact ⟨c0, c1, e, h0, h1⟩); (case aL => omega); intro v2 w6 ho hb hg5 hat; obtain ⟨AM, cM, e, hcM, hCM⟩ := Kd.R_reads ho; subst e; have HO6 := Aside0.mk hCM; have HB6 := Aside0.mk hb; clear ho hb hg5 hat hCM))
        have hall := litP3 w6 hcm hd hcM (Kd.C_below HCL.out HB6.out) (Kd.C_below HCZ.out HB6.out) HO6.out
        rw [List.length_append] at hall
        have HALL := Aside0.mk hall
        have hb7 := below_alloc HB6.out (.cells #[.slice Am l.length cm, .slice B z.length d, .slice AM (l.length + z.length) cM] 23)
        have HZ7 := Aside0.mk (Kd.C_below HCZ.out hb7)
        have HG7 := Aside0.mk (Kd.C_below HCG.out hb7)
        have HB7 := Aside0.mk (below_step HBM.out hb7)
        clear hall hb7 HO6 HO5 HB6 HB5 HE HBE HCL HCZ HCG HBM
        have hin : ∀ j : Nat, j < 3 → (rd_L10 [l, z, l ++ z] (j : Int)).length ≤ 1000000 := fun j hj => by
          match j, hj with
          | 0, _ => show l.length ≤ _; omega
          | 1, _ => show z.length ≤ _; omega
          | 2, _ => show (l ++ z).length ≤ _; rw [List.length_append]; omega
        have HIN := Aside0.mk hin
        clear hin
        obtain ⟨w7, hw7⟩ : ∃ w7, w7 = w6.alloc (.cells #[.slice Am l.length cm, .slice B z.length d, .slice AM (l.length + z.length) cM] 23) := ⟨_, rfl⟩
        rw [← hw7] at HALL HZ7 HG7 HB7 ⊢
        obtain ⟨aL, haL⟩ : ∃ aL : Addr, aL = ⟨w6.heap.size, 0, none⟩ := ⟨_, rfl⟩
        rw [← haL] at HALL ⊢
        clear hw7 haL
        go_loopw [12] (fun v12 w' => ∃ (i : Nat), i ≤ 3 ∧ v12 = .int .i64 i ∧ Aside0 (Below w7.heap.size w7 w')) (fun v12 _ => 3 - (intOf v12).toNat)
        case atStart => exact ⟨0, by omega, rfl, ⟨Below.refl _ _⟩⟩
        case round =>
          obtain ⟨i, hi, rfl, HB⟩ := hrel
          by_cases hlt : i < 3
          · obtain ⟨ad, A0, c0, e, hcell, hcp, hCP⟩ := at_L10 (Kd.C_below HALL.out HB.out) (i : Int) (by omega) (by omega)
            have hpl := HIN.out i hlt
            cases e
            simp only [Int.toNat_natCast] at hcell
            generalize rd_L10 [l, z, l ++ z] (i : Int) = p at hcell hcp hCP hpl
            have HCP := Aside0.mk hCP
            have HGR := Aside0.mk (Kd.C_below HG7.out HB.out)
            have HZR := Aside0.mk (Kd.C_below HZ7.out HB.out)
            clear hCP
            go_wp2_with (fail)
            obtain ⟨kp, hkp⟩ : ∃ k, chapmanlaw36_pieces.f k p = some (pcs p) := by
              obtain ⟨K, hK⟩ := pieces_ev p hpl
              exact ⟨K, hK K (Nat.le_refl _)⟩
            refine (chapmanlaw36_pieces.calls kp A0 c0 p (pcs p) _ HCP.out hcp hkp).mono ?_
            rintro e wx1 ⟨v, rfl, hP, hb⟩
            have HBx1 := Aside0.mk hb
            clear hcell
            obtain ⟨P1, p1, e, hp1, hPC⟩ := Kd.R_reads hP
            subst e
            have HPC := Aside0.mk hPC
            clear hP hb hPC hkp
            go_wp2_with (fail)
            refine (cost_Valid.calls P1 p1 (pcs p) (validL (pcs p)) _ HPC.out hp1 rfl).mono ?_
            rintro e wx2 ⟨rfl, hb⟩
            have HBx2 := Aside0.mk (HBx1.out.trans (hb.mono HBx1.out.size))
            clear hb HPC hp1
            go_wp2_with (fail)
            obtain ⟨kv, hkv⟩ : ∃ k, chapmanref36_Valid.f k p = some (validL (pcs p)) := by
              obtain ⟨K, hK⟩ := rvalid_ev p hpl
              exact ⟨K, hK K (Nat.le_refl _)⟩
            refine (chapmanref36_Valid.calls kv A0 c0 p _ _ (Kd.C_below HCP.out HBx2.out) hcp hkv).mono ?_
            rintro e wx3 ⟨rfl, hd⟩
            have HBx3 := Aside0.mk (HBx2.out.trans ((drawn_below hd).mono HBx2.out.size))
            clear hd hkv
            generalize hvb : validL (pcs p) = vb
            go_wp2_with (fail)
            refine (chosen15 A0 c0 p _ (Kd.C_below HCP.out HBx3.out) hcp hpl).mono ?_
            rintro e wa1 ⟨A1, c1, A2, c2, rfl, l1, l2, C1, C2, hb⟩
            have HBa1 := Aside0.mk (HBx3.out.trans (hb.mono HBx3.out.size))
            have HC1 := Aside0.mk C1
            have HC2 := Aside0.mk C2
            clear hb C1 C2
            go_wp2_with (fail)
            refine (chooseIn16 A0 c0 p _ (Kd.C_below HCP.out HBa1.out) hcp hpl).mono ?_
            rintro e wb1 ⟨B1, d1, B2, d2, rfl, m1, m2, D1, D2, hb⟩
            have HBb1 := Aside0.mk (HBa1.out.trans (hb.mono HBa1.out.size))
            have HA1 := Aside0.mk (Kd.C_below HC1.out hb)
            have HA2 := Aside0.mk (Kd.C_below HC2.out hb)
            have HD1 := Aside0.mk D1
            have HD2 := Aside0.mk D2
            clear hb D1 D2 HC1 HC2
            go_wp2_with (fail)
            refine (alike14 (chosenL p) (chosenL_ok p) A1 A2 B1 B2 c1 c2 d1 d2 wb1 l1 l2 HA1.out HA2.out m1 m2 HD1.out HD2.out).mono ?_
            rintro e wc1 ⟨rfl, hb⟩
            have HBc1 := Aside0.mk (HBb1.out.trans (hb.mono HBb1.out.size))
            clear hb HA1 HA2 HD1 HD2 l1 l2 m1 m2
            go_wp2_with (fail)
            refine (read17 A0 c0 p _ (Kd.C_below HCP.out HBc1.out) hcp hpl).mono ?_
            rintro e wa2 ⟨A1, c1, A2, c2, rfl, l1, l2, C1, C2, hb⟩
            have HBa2 := Aside0.mk (HBc1.out.trans (hb.mono HBc1.out.size))
            have HC1 := Aside0.mk C1
            have HC2 := Aside0.mk C2
            clear hb C1 C2
            go_wp2_with (fail)
            refine (readIn18 A0 c0 p _ (Kd.C_below HCP.out HBa2.out) hcp hpl).mono ?_
            rintro e wb2 ⟨B1, d1, B2, d2, rfl, m1, m2, D1, D2, hb⟩
            have HBb2 := Aside0.mk (HBa2.out.trans (hb.mono HBa2.out.size))
            have HA1 := Aside0.mk (Kd.C_below HC1.out hb)
            have HA2 := Aside0.mk (Kd.C_below HC2.out hb)
            have HD1 := Aside0.mk D1
            have HD2 := Aside0.mk D2
            clear hb D1 D2 HC1 HC2
            go_wp2_with (fail)
            refine (alike14 (readL p) (readL_ok p) A1 A2 B1 B2 c1 c2 d1 d2 wb2 l1 l2 HA1.out HA2.out m1 m2 HD1.out HD2.out).mono ?_
            rintro e wc2 ⟨rfl, hb⟩
            have HBc2 := Aside0.mk (HBb2.out.trans (hb.mono HBb2.out.size))
            clear hb HA1 HA2 HD1 HD2 l1 l2 m1 m2
            go_wp2_with (fail)
            refine (after19 A0 c0 p E f g _ (Kd.C_below HCP.out HBc2.out) hcp (Kd.C_below HGR.out HBc2.out) hf hpl).mono ?_
            rintro e wa3 ⟨A1, c1, A2, c2, rfl, l1, l2, C1, C2, hb⟩
            have HBa3 := Aside0.mk (HBc2.out.trans (hb.mono HBc2.out.size))
            have HC1 := Aside0.mk C1
            have HC2 := Aside0.mk C2
            clear hb C1 C2
            go_wp2_with (fail)
            refine (afterIn20 A0 c0 p E f g _ (Kd.C_below HCP.out HBa3.out) hcp (Kd.C_below HGR.out HBa3.out) hf hpl (by omega) HGI.out).mono ?_
            rintro e wb3 ⟨B1, d1, B2, d2, rfl, m1, m2, D1, D2, hb⟩
            have HBb3 := Aside0.mk (HBa3.out.trans (hb.mono HBa3.out.size))
            have HA1 := Aside0.mk (Kd.C_below HC1.out hb)
            have HA2 := Aside0.mk (Kd.C_below HC2.out hb)
            have HD1 := Aside0.mk D1
            have HD2 := Aside0.mk D2
            clear hb D1 D2 HC1 HC2
            go_wp2_with (fail)
            refine (alike14 (afterR p g) (afterR_ok p g hpl) A1 A2 B1 B2 c1 c2 d1 d2 wb3 l1 l2 HA1.out HA2.out m1 m2 HD1.out HD2.out).mono ?_
            rintro e wc3 ⟨rfl, hb⟩
            have HBc3 := Aside0.mk (HBb3.out.trans (hb.mono HBb3.out.size))
            clear hb HA1 HA2 HD1 HD2 l1 l2 m1 m2
            go_wp2_with (fail)
            refine (chooseIn16 A0 c0 p _ (Kd.C_below HCP.out HBc3.out) hcp hpl).mono ?_
            rintro e wp4 ⟨P1, p1, P2, p2, rfl, hp1, _, E1, _, hb⟩
            have HBp4 := Aside0.mk (HBc3.out.trans (hb.mono HBc3.out.size))
            have HE1 := Aside0.mk E1
            clear hb E1
            go_wp2_with (fail)
            refine (after19 A0 c0 p P1 p1 (chosenL p).1 _ (Kd.C_below HCP.out HBp4.out) hcp HE1.out hp1 hpl).mono ?_
            rintro e wq4 ⟨A1, c1, A2, c2, rfl, l1, l2, C1, C2, hb⟩
            have HBq4 := Aside0.mk (HBp4.out.trans (hb.mono HBp4.out.size))
            have HC1 := Aside0.mk C1
            have HC2 := Aside0.mk C2
            clear hb C1 C2 HE1
            go_wp2_with (fail)
            refine (chooseIn16 A0 c0 p _ (Kd.C_below HCP.out HBq4.out) hcp hpl).mono ?_
            rintro e wr4 ⟨R1, r1, R2, r2, rfl, hr1, _, E1, _, hb⟩
            have HBr4 := Aside0.mk (HBq4.out.trans (hb.mono HBq4.out.size))
            have HA1 := Aside0.mk (Kd.C_below HC1.out hb)
            have HA2 := Aside0.mk (Kd.C_below HC2.out hb)
            have HE1 := Aside0.mk E1
            clear hb E1 HC1 HC2
            go_wp2_with (fail)
            refine (afterIn20 A0 c0 p R1 r1 (chosenL p).1 _ (Kd.C_below HCP.out HBr4.out) hcp HE1.out hr1 hpl (chosenL_ok p).1 (chosenL_ok p).2.1).mono ?_
            rintro e ws4 ⟨B1, d1, B2, d2, rfl, m1, m2, D1, D2, hb⟩
            have HBs4 := Aside0.mk (HBr4.out.trans (hb.mono HBr4.out.size))
            have HF1 := Aside0.mk (Kd.C_below HA1.out hb)
            have HF2 := Aside0.mk (Kd.C_below HA2.out hb)
            have HD1 := Aside0.mk D1
            have HD2 := Aside0.mk D2
            clear hb D1 D2 HA1 HA2 HE1
            go_wp2_with (fail)
            refine (alike14 (afterR p (chosenL p).1) (afterR_ok p _ hpl) A1 A2 B1 B2 c1 c2 d1 d2 ws4 l1 l2 HF1.out HF2.out m1 m2 HD1.out HD2.out).mono ?_
            rintro e wt4 ⟨rfl, hb⟩
            have HBt4 := Aside0.mk (HBs4.out.trans (hb.mono HBs4.out.size))
            clear hb HF1 HF2 HD1 HD2 l1 l2 m1 m2 hp1 hr1
            obtain ⟨wo, hwo⟩ : ∃ wo, wo = wr := ⟨_, rfl⟩
            have HO := Aside0.mk HB.out
            have HT := Aside0.mk HBt4.out
            rw [← hwo] at HCP HGR HZR HO HT
            clear hwo HBx1 HBx2 HBx3 HBa1 HBb1 HBc1 HBa2 HBb2 HBc2 HBa3 HBb3 HBc3 HBp4 HBq4 HBr4 HBs4 HBt4 HB hvb
            go_wp2
            go_loopw [14] (fun v14 w' => ∃ (k : Nat), k ≤ g.length ∧ v14 = .int .i64 k ∧ Aside0 (Below wo.heap.size wo w')) (fun v14 _ => g.length - (intOf v14).toNat)
            case atStart => exact ⟨0, by omega, rfl, HT⟩
            case round =>
              clear HT
              obtain ⟨k, hk, rfl, HBk⟩ := hrel
              by_cases hkt : k < g.length
              · obtain ⟨gk, hgk⟩ : ∃ a, g[k]? = some a := ⟨_, List.getElem?_eq_getElem hkt⟩
                obtain ⟨adG, G0, g0, rfl, hcg5, hgc, hgC⟩ := rr_read HGR.out k hkt hgk
                have hgkl := HGI.out gk (List.mem_of_getElem? hgk)
                have hcg := (HBk.out.cell (World.block_lt_of_cell? wo _ hcg5)).trans hcg5
                have HGC := Aside0.mk hgC
                have HSB : Aside0 (∀ W', Below wr.heap.size wr W' → W'.cell? (adG.add k) = some (.slice G0 gk.length g0)) :=
                  ⟨fun W' hb => (hb.cell (World.block_lt_of_cell? wr _ hcg)).trans hcg⟩
                clear hgk hgC hcg5 hcg
                go_wp2
                refine start_ (n := 24) (S := fun w' => w'.cell? (adG.add k) = some (.slice G0 gk.length g0)) (ds := []) #[false, false, false, false, false, false, false, false, false, false, false, false, false, false, false, false, false, false, false, false, false, false, false, false] (by kernel_rfl) rfl rfl (HSB.out wr.drew (Below.refl _ _).drew) (fun hHeld => ?_); refine with_tabW match3.tab22 match3.bits22 (fun HT_ HW_ => ?_)
                refine pure_ (i := 0) (N := some 114) (v := ?_) (a' := ?_) #[true, false, false, false, false, false, false, false, false, false, false, false, false, false, false, false, false, false, false, false, false, false, false, false] rfl rfl (any_of HT_.out (by kernel_rfl)) (fun _ _ _ h => h) (Or.inl ⟨by rfl, ?_⟩) ?_ ?_
                rotate_left
                · intro w'; go_simp; with_reducible rfl
                rotate_left
                · simp only [Act.put, List.setIfInBounds_toArray, List.set_cons_zero, List.set_cons_succ, i64_w, i32_w]; rfl
                refine pure_ (i := 1) (N := some 115) (v := ?_) (a' := ?_) #[true, true, false, false, false, false, false, false, false, false, false, false, false, false, false, false, false, false, false, false, false, false, false, false] rfl rfl (any_of HT_.out (by kernel_rfl)) (fun _ _ _ h => h) (Or.inl ⟨by rfl, ?_⟩) ?_ ?_
                rotate_left
                · intro w'; go_simp; with_reducible rfl
                rotate_left
                · simp only [Act.put, List.setIfInBounds_toArray, List.set_cons_zero, List.set_cons_succ, i64_w, i32_w]; rfl
                refine pure_ (i := 2) (N := some 116) (v := ?_) (a' := ?_) #[true, true, true, false, false, false, false, false, false, false, false, false, false, false, false, false, false, false, false, false, false, false, false, false] rfl rfl (any_of HT_.out (by kernel_rfl)) (fun _ _ _ h => h) (Or.inl ⟨by rfl, ?_⟩) ?_ ?_
                rotate_left
                · intro w'; go_simp; with_reducible rfl
                rotate_left
                · simp only [Act.put, List.setIfInBounds_toArray, List.set_cons_zero, List.set_cons_succ, i64_w, i32_w]; rfl
                refine pure_ (i := 3) (N := some 117) (v := ?_) (a' := ?_) #[true, true, true, true, false, false, false, false, false, false, false, false, false, false, false, false, false, false, false, false, false, false, false, false] rfl rfl (any_of HT_.out (by kernel_rfl)) (fun _ _ _ h => h) (Or.inl ⟨by rfl, ?_⟩) ?_ ?_
                rotate_left
                · intro w'; go_simp; with_reducible rfl
                rotate_left
                · simp only [Act.put, List.setIfInBounds_toArray, List.set_cons_zero, List.set_cons_succ, i64_w, i32_w]; rfl
                refine pure_ (i := 6) (N := some 120) (v := ?_) (a' := ?_) #[true, true, true, true, false, false, true, false, false, false, false, false, false, false, false, false, false, false, false, false, false, false, false, false] rfl rfl (any_of HT_.out (by kernel_rfl)) (fun _ _ _ h => h) (Or.inl ⟨by rfl, ?_⟩) ?_ ?_
                rotate_left
                · intro w'; go_simp; with_reducible rfl
                rotate_left
                · simp only [Act.put, List.setIfInBounds_toArray, List.set_cons_zero, List.set_cons_succ, i64_w, i32_w]; rfl
                refine pure_ (i := 7) (N := some 121) (v := ?_) (a' := ?_) #[true, true, true, true, false, false, true, true, false, false, false, false, false, false, false, false, false, false, false, false, false, false, false, false] rfl rfl (any_of HT_.out (by kernel_rfl)) (fun _ _ _ h => h) (Or.inl ⟨by rfl, ?_⟩) ?_ ?_
                rotate_left
                · intro w'; go_simp; with_reducible rfl
                rotate_left
                · simp only [Act.put, List.setIfInBounds_toArray, List.set_cons_zero, List.set_cons_succ, i64_w, i32_w]; rfl
                refine pure_ (i := 8) (N := some 122) (v := ?_) (a' := ?_) #[true, true, true, true, false, false, true, true, true, false, false, false, false, false, false, false, false, false, false, false, false, false, false, false] rfl rfl (any_of HT_.out (by kernel_rfl)) (fun _ _ _ h => h) (Or.inl ⟨by rfl, ?_⟩) ?_ ?_
                rotate_left
                · intro w'; go_simp; with_reducible rfl
                rotate_left
                · simp only [Act.put, List.setIfInBounds_toArray, List.set_cons_zero, List.set_cons_succ, i64_w, i32_w]; rfl
                refine pure_ (i := 9) (N := some 123) (v := ?_) (a' := ?_) #[true, true, true, true, false, false, true, true, true, true, false, false, false, false, false, false, false, false, false, false, false, false, false, false] rfl rfl (any_of HT_.out (by kernel_rfl)) (fun _ _ _ h => h) (Or.inl ⟨by rfl, ?_⟩) ?_ ?_
                rotate_left
                · intro w'; go_simp; with_reducible rfl
                rotate_left
                · simp only [Act.put, List.setIfInBounds_toArray, List.set_cons_zero, List.set_cons_succ, i64_w, i32_w]; rfl
                refine take_ (i := 4) (N := some 118) (v := ?_) (a' := ?_) #[true, true, true, true, true, false, true, true, true, true, false, false, false, false, false, false, false, false, false, false, false, false, false, false] rfl rfl (take_ofW HT_.out HW_.out (by kernel_rfl)) (fun _ _ _ h => h) (Or.inl ⟨by rfl, ?_⟩) hHeld ?_ ?_
                rotate_left
                · rintro w' s0; go_simp; with_reducible rfl
                rotate_left
                · simp only [Act.put, List.setIfInBounds_toArray, List.set_cons_zero, List.set_cons_succ, i64_w, i32_w]; rfl
                refine take_ (i := 10) (N := some 124) (v := ?_) (a' := ?_) #[true, true, true, true, true, false, true, true, true, true, true, false, false, false, false, false, false, false, false, false, false, false, false, false] rfl rfl (take_ofW HT_.out HW_.out (by kernel_rfl)) (fun _ _ _ h => h) (Or.inl ⟨by rfl, ?_⟩) hHeld ?_ ?_
                rotate_left
                · rintro w' s0; go_simp; with_reducible rfl
                rotate_left
                · simp only [Act.put, List.setIfInBounds_toArray, List.set_cons_zero, List.set_cons_succ, i64_w, i32_w]; rfl
                refine one_ (i := 5) (N := some 119) #[true, true, true, true, true, true, true, true, true, true, true, false, false, false, false, false, false, false, false, false, false, false, false, false] rfl rfl (one_of HT_.out (by kernel_rfl)) (by decide) (fun K hK => ?_)
                refine goes_ Try.func21 (by kernel_rfl) rfl #[.slice A0 p.length c0, .slice G0 gk.length g0] (by rfl) rfl rfl (by simp only [List.map_toArray, List.map_cons, List.map_nil]; rfl) ?_
                refine (merge21 A0 c0 p G0 g0 gk _ (Kd.C_drew (Kd.C_below HCP.out HBk.out)) hcp (Kd.C_drew (Kd.C_below HGC.out HBk.out)) hgc hpl).mono ?_
                rintro e y1 ⟨A1, c1, A2, c2, rfl, l1, l2, C1, C2, hb⟩
                have HC1 := Aside0.mk C1
                have HC2 := Aside0.mk C2
                have HL1 := Aside0.mk ((Below.refl _ wr).drew.trans hb)
                clear hb C1 C2
                have HO1 := Aside0.mk (HBk.out.trans (HL1.out.mono HBk.out.size))
                refine ⟨_, rfl, hK.out _ _ (HSB.out _ HL1.out) (fun hHeld => ?_)⟩
                clear hK K
                refine norm_ (a' := ?_) ?_ ?_
                rotate_left
                · show Act.put _ (some 119) _ = _; simp only [Act.put, List.setIfInBounds_toArray, List.set_cons_zero, List.set_cons_succ, i64_w, i32_w]; rfl
                refine one_ (i := 11) (N := some 125) #[true, true, true, true, true, true, true, true, true, true, true, true, false, false, false, false, false, false, false, false, false, false, false, false] rfl rfl (one_of HT_.out (by kernel_rfl)) (by decide) (fun K hK => ?_)
                refine goes_ Try.func22 (by kernel_rfl) rfl #[.slice A0 p.length c0, .slice G0 gk.length g0] (by rfl) rfl rfl (by simp only [List.map_toArray, List.map_cons, List.map_nil]; rfl) ?_
                refine (mergeIn22 A0 c0 p G0 g0 gk _ (Kd.C_below HCP.out HO1.out) hcp (Kd.C_below HGC.out HO1.out) hgc hpl hgkl).mono ?_
                rintro e y2 ⟨B1, d1, B2, d2, rfl, m1, m2, D1, D2, hb⟩
                have HA1 := Aside0.mk (Kd.C_below HC1.out hb)
                have HA2 := Aside0.mk (Kd.C_below HC2.out hb)
                have HD1 := Aside0.mk D1
                have HD2 := Aside0.mk D2
                have HL2 := Aside0.mk (HL1.out.trans (hb.mono HL1.out.size))
                clear hb D1 D2 HC1 HC2
                have HO2 := Aside0.mk (HBk.out.trans (HL2.out.mono HBk.out.size))
                refine ⟨_, rfl, hK.out _ _ (HSB.out _ HL2.out) (fun hHeld => ?_)⟩
                clear hK K
                refine norm_ (a' := ?_) ?_ ?_
                rotate_left
                · show Act.put _ (some 125) _ = _; simp only [Act.put, List.setIfInBounds_toArray, List.set_cons_zero, List.set_cons_succ, i64_w, i32_w]; rfl
                refine one_ (i := 12) (N := some 126) #[true, true, true, true, true, true, true, true, true, true, true, true, true, false, false, false, false, false, false, false, false, false, false, false] rfl rfl (one_of HT_.out (by kernel_rfl)) (by decide) (fun K hK => ?_)
                refine goes_ Try.func14 (by kernel_rfl) rfl #[.agg #[.slice A1 (mergeL p gk).1.length c1, .slice A2 (mergeL p gk).2.1.length c2, .int .i64 (mergeL p gk).2.2.1, .int .i64 (mergeL p gk).2.2.2], .agg #[.slice B1 (mergeL p gk).1.length d1, .slice B2 (mergeL p gk).2.1.length d2, .int .i64 (mergeL p gk).2.2.1, .int .i64 (mergeL p gk).2.2.2]] (by rfl) rfl rfl (by simp only [List.map_toArray, List.map_cons, List.map_nil]; rfl) ?_
                refine (alike14 (mergeL p gk) (mergeL_ok p gk) A1 A2 B1 B2 c1 c2 d1 d2 y2 l1 l2 HA1.out HA2.out m1 m2 HD1.out HD2.out).mono ?_
                rintro e y3 ⟨rfl, hb⟩
                have HL3 := Aside0.mk (HL2.out.trans (hb.mono HL2.out.size))
                have HO3 := Aside0.mk (HBk.out.trans (HL3.out.mono HBk.out.size))
                clear hb HA1 HA2 HD1 HD2 l1 l2 m1 m2
                refine ⟨_, rfl, hK.out _ _ (HSB.out _ HL3.out) (fun hHeld => ?_)⟩
                clear hK K
                refine norm_ (a' := ?_) ?_ ?_
                rotate_left
                · show Act.put _ (some 126) _ = _; simp only [Act.put, List.setIfInBounds_toArray, List.set_cons_zero, List.set_cons_succ, i64_w, i32_w]; rfl
                refine pure_ (i := 13) (N := some 127) (v := ?_) (a' := ?_) #[true, true, true, true, true, true, true, true, true, true, true, true, true, true, false, false, false, false, false, false, false, false, false, false] rfl rfl (any_of HT_.out (by kernel_rfl)) (fun _ _ _ h => h) (Or.inl ⟨by rfl, ?_⟩) ?_ ?_
                rotate_left
                · intro w'; go_simp; with_reducible rfl
                rotate_left
                · simp only [Act.put, List.setIfInBounds_toArray, List.set_cons_zero, List.set_cons_succ, i64_w, i32_w]; rfl
                refine pure_ (i := 14) (N := some 128) (v := ?_) (a' := ?_) #[true, true, true, true, true, true, true, true, true, true, true, true, true, true, true, false, false, false, false, false, false, false, false, false] rfl rfl (any_of HT_.out (by kernel_rfl)) (fun _ _ _ h => h) (Or.inl ⟨by rfl, ?_⟩) ?_ ?_
                rotate_left
                · intro w'; go_simp; with_reducible rfl
                rotate_left
                · simp only [Act.put, List.setIfInBounds_toArray, List.set_cons_zero, List.set_cons_succ, i64_w, i32_w]; rfl
                refine pure_ (i := 15) (N := some 129) (v := ?_) (a' := ?_) #[true, true, true, true, true, true, true, true, true, true, true, true, true, true, true, true, false, false, false, false, false, false, false, false] rfl rfl (any_of HT_.out (by kernel_rfl)) (fun _ _ _ h => h) (Or.inl ⟨by rfl, ?_⟩) ?_ ?_
                rotate_left
                · intro w'; go_simp; with_reducible rfl
                rotate_left
                · simp only [Act.put, List.setIfInBounds_toArray, List.set_cons_zero, List.set_cons_succ, i64_w, i32_w]; rfl
                refine pure_ (i := 16) (N := some 130) (v := ?_) (a' := ?_) #[true, true, true, true, true, true, true, true, true, true, true, true, true, true, true, true, true, false, false, false, false, false, false, false] rfl rfl (any_of HT_.out (by kernel_rfl)) (fun _ _ _ h => h) (Or.inl ⟨by rfl, ?_⟩) ?_ ?_
                rotate_left
                · intro w'; go_simp; with_reducible rfl
                rotate_left
                · simp only [Act.put, List.setIfInBounds_toArray, List.set_cons_zero, List.set_cons_succ, i64_w, i32_w]; rfl
                refine pure_ (i := 18) (N := some 132) (v := ?_) (a' := ?_) #[true, true, true, true, true, true, true, true, true, true, true, true, true, true, true, true, true, false, true, false, false, false, false, false] rfl rfl (any_of HT_.out (by kernel_rfl)) (fun _ _ _ h => h) (Or.inl ⟨by rfl, ?_⟩) ?_ ?_
                rotate_left
                · intro w'; go_simp; with_reducible rfl
                rotate_left
                · simp only [Act.put, List.setIfInBounds_toArray, List.set_cons_zero, List.set_cons_succ, i64_w, i32_w]; rfl
                refine pure_ (i := 19) (N := some 133) (v := ?_) (a' := ?_) #[true, true, true, true, true, true, true, true, true, true, true, true, true, true, true, true, true, false, true, true, false, false, false, false] rfl rfl (any_of HT_.out (by kernel_rfl)) (fun _ _ _ h => h) (Or.inl ⟨by rfl, ?_⟩) ?_ ?_
                rotate_left
                · intro w'; go_simp; with_reducible rfl
                rotate_left
                · simp only [Act.put, List.setIfInBounds_toArray, List.set_cons_zero, List.set_cons_succ, i64_w, i32_w]; rfl
                refine one_ (i := 17) (N := some 131) #[true, true, true, true, true, true, true, true, true, true, true, true, true, true, true, true, true, true, true, true, false, false, false, false] rfl rfl (one_of HT_.out (by kernel_rfl)) (by decide) (fun K hK => ?_)
                refine goes_ Try.func23 (by kernel_rfl) rfl #[.slice A0 p.length c0, .int .i64 n] (by rfl) rfl rfl (by simp only [List.map_toArray, List.map_cons, List.map_nil]; rfl) ?_
                refine (worth23 A0 c0 p n _ (Kd.C_below HCP.out HO3.out) hcp hpl).mono ?_
                rintro e y4 ⟨A1, c1, A2, c2, rfl, l1, l2, C1, C2, hb⟩
                have HC1 := Aside0.mk C1
                have HC2 := Aside0.mk C2
                have HL4 := Aside0.mk (HL3.out.trans (hb.mono HL3.out.size))
                clear hb C1 C2
                have HO4 := Aside0.mk (HBk.out.trans (HL4.out.mono HBk.out.size))
                refine ⟨_, rfl, hK.out _ _ (HSB.out _ HL4.out) (fun hHeld => ?_)⟩
                clear hK K
                refine norm_ (a' := ?_) ?_ ?_
                rotate_left
                · show Act.put _ (some 131) _ = _; simp only [Act.put, List.setIfInBounds_toArray, List.set_cons_zero, List.set_cons_succ, i64_w, i32_w]; rfl
                refine one_ (i := 20) (N := some 134) #[true, true, true, true, true, true, true, true, true, true, true, true, true, true, true, true, true, true, true, true, true, false, false, false] rfl rfl (one_of HT_.out (by kernel_rfl)) (by decide) (fun K hK => ?_)
                refine goes_ Try.func24 (by kernel_rfl) rfl #[.slice A0 p.length c0, .int .i64 n] (by rfl) rfl rfl (by simp only [List.map_toArray, List.map_cons, List.map_nil]; rfl) ?_
                refine (worthIn24 A0 c0 p n _ (Kd.C_below HCP.out HO4.out) hcp hpl).mono ?_
                rintro e y5 ⟨B1, d1, B2, d2, rfl, m1, m2, D1, D2, hb⟩
                have HA1 := Aside0.mk (Kd.C_below HC1.out hb)
                have HA2 := Aside0.mk (Kd.C_below HC2.out hb)
                have HD1 := Aside0.mk D1
                have HD2 := Aside0.mk D2
                have HL5 := Aside0.mk (HL4.out.trans (hb.mono HL4.out.size))
                clear hb D1 D2 HC1 HC2
                have HO5 := Aside0.mk (HBk.out.trans (HL5.out.mono HBk.out.size))
                refine ⟨_, rfl, hK.out _ _ (HSB.out _ HL5.out) (fun hHeld => ?_)⟩
                clear hK K
                refine norm_ (a' := ?_) ?_ ?_
                rotate_left
                · show Act.put _ (some 134) _ = _; simp only [Act.put, List.setIfInBounds_toArray, List.set_cons_zero, List.set_cons_succ, i64_w, i32_w]; rfl
                refine one_ (i := 21) (N := some 135) #[true, true, true, true, true, true, true, true, true, true, true, true, true, true, true, true, true, true, true, true, true, true, false, false] rfl rfl (one_of HT_.out (by kernel_rfl)) (by decide) (fun K hK => ?_)
                refine goes_ Try.func14 (by kernel_rfl) rfl #[.agg #[.slice A1 (worthR p n).1.length c1, .slice A2 (worthR p n).2.1.length c2, .int .i64 (worthR p n).2.2.1, .int .i64 (worthR p n).2.2.2], .agg #[.slice B1 (worthR p n).1.length d1, .slice B2 (worthR p n).2.1.length d2, .int .i64 (worthR p n).2.2.1, .int .i64 (worthR p n).2.2.2]] (by rfl) rfl rfl (by simp only [List.map_toArray, List.map_cons, List.map_nil]; rfl) ?_
                refine (alike14 (worthR p n) (worthR_ok2 p n) A1 A2 B1 B2 c1 c2 d1 d2 y5 l1 l2 HA1.out HA2.out m1 m2 HD1.out HD2.out).mono ?_
                rintro e y6 ⟨rfl, hb⟩
                have HL6 := Aside0.mk (HL5.out.trans (hb.mono HL5.out.size))
                have HO6 := Aside0.mk (HBk.out.trans (HL6.out.mono HBk.out.size))
                clear hb HA1 HA2 HD1 HD2 l1 l2 m1 m2
                refine ⟨_, rfl, hK.out _ _ (HSB.out _ HL6.out) (fun hHeld => ?_)⟩
                clear hK K
                refine norm_ (a' := ?_) ?_ ?_
                rotate_left
                · show Act.put _ (some 135) _ = _; simp only [Act.put, List.setIfInBounds_toArray, List.set_cons_zero, List.set_cons_succ, i64_w, i32_w]; rfl
                refine pure_ (i := 22) (N := some 136) (v := ?_) (a' := ?_) #[true, true, true, true, true, true, true, true, true, true, true, true, true, true, true, true, true, true, true, true, true, true, true, false] rfl rfl (any_of HT_.out (by kernel_rfl)) (fun _ _ _ h => h) (Or.inl ⟨by rfl, ?_⟩) ?_ ?_
                rotate_left
                · intro w'; go_simp; with_reducible rfl
                rotate_left
                · simp only [Act.put, List.setIfInBounds_toArray, List.set_cons_zero, List.set_cons_succ, i64_w, i32_w]; rfl
                refine pure_ (i := 23) (N := some 137) (v := ?_) (a' := ?_) #[true, true, true, true, true, true, true, true, true, true, true, true, true, true, true, true, true, true, true, true, true, true, true, true] rfl rfl (any_of HT_.out (by kernel_rfl)) (fun _ _ _ h => h) (Or.inl ⟨by rfl, ?_⟩) ?_ ?_
                rotate_left
                · intro w'; go_simp; with_reducible rfl
                rotate_left
                · simp only [Act.put, List.setIfInBounds_toArray, List.set_cons_zero, List.set_cons_succ, i64_w, i32_w]; rfl
                refine done_ (done_of HT_.out (by kernel_rfl)) ?_
                clear HSB hHeld HT_ HW_ HL1 HL2 HL3 HL4 HL5 HL6 HO1 HO2 HO3 HO4 HO5 HBk
                go_wp2
                go_roundw
                case rel => exact ⟨k + 1, by omega, by go_num, HO6⟩
                case measure => simp [intOf]; omega
              · obtain rfl : k = g.length := by omega
                go_wp2
                go_loopw [15] (fun v15 w' => ∃ (k : Nat), k ≤ z.length ∧ v15 = .int .i64 k ∧ Aside0 (Below wo.heap.size wo w')) (fun v15 _ => z.length - (intOf v15).toNat)
                case atStart => exact ⟨0, by omega, rfl, HBk⟩
                case round =>
                  clear HBk
                  obtain ⟨k, hk, rfl, HBk⟩ := hrel
                  by_cases hkt : k < z.length
                  · obtain ⟨adZ, rfl, h05, h15⟩ := at_T43 HZR.out (k : Int) (by omega) (by omega)
                    simp only [Int.toNat_natCast] at h05 h15
                    have hzk := HZB.out (rd_T43 z k) (by rw [rd43 hkt]; exact List.getElem_mem hkt)
                    generalize (rd_T43 z (k : Int)).f0 = z0 at h05 hzk
                    generalize (rd_T43 z (k : Int)).f1 = z1 at h15
                    have h0 := (HBk.out.cell (World.block_lt_of_cell? wo _ h05)).trans h05
                    have h1 := (HBk.out.cell (World.block_lt_of_cell? wo _ h15)).trans h15
                    have HSB : Aside0 (∀ W', Below wr.heap.size wr W' → W'.cell? (adZ.add (k * 2)) = some (.int .i64 z0) ∧ W'.cell? ⟨(adZ.add (k * 2)).block, (adZ.add (k * 2)).off + 1, none⟩ = some (.int .i64 z1)) :=
                      ⟨fun W' hb => ⟨(hb.cell (World.block_lt_of_cell? wr _ h0)).trans h0, (hb.cell (World.block_lt_of_cell? wr _ h1)).trans h1⟩⟩
                    obtain ⟨lz, hlz⟩ : ∃ lz, lz = lv z0.toNat := ⟨_, rfl⟩
                    obtain ⟨ka, hka⟩ : ∃ q, cost_Level.f q z0 = some lz := by
                      obtain ⟨K, hK⟩ := level_ev z0 hzk
                      exact ⟨K, (hK K (Nat.le_refl _)).trans (by rw [hlz])⟩
                    obtain ⟨kb, hkb⟩ : ∃ q, chapmanref36_Level.f q z0 = some lz := by
                      obtain ⟨K, hK⟩ := rlevel_ev z0 hzk
                      exact ⟨K, (hK K (Nat.le_refl _)).trans (by rw [hlz])⟩
                    have HKA := Aside0.mk hka
                    have HKB := Aside0.mk hkb
                    clear h05 h15 h0 h1 hka hkb hlz hzk
                    go_wp2
                    refine start_ (n := 31) (S := fun w' => w'.cell? (adZ.add (k * 2)) = some (.int .i64 z0) ∧ w'.cell? ⟨(adZ.add (k * 2)).block, (adZ.add (k * 2)).off + 1, none⟩ = some (.int .i64 z1)) (ds := []) #[false, false, false, false, false, false, false, false, false, false, false, false, false, false, false, false, false, false, false, false, false, false, false, false, false, false, false, false, false, false, false] (by kernel_rfl) rfl rfl (HSB.out wr.drew (Below.refl _ _).drew) (fun hHeld => ?_); refine with_tabW match3.tab27 match3.bits27 (fun HT_ HW_ => ?_)
                    refine pure_ (i := 0) (N := some 144) (v := ?_) (a' := ?_) #[true, false, false, false, false, false, false, false, false, false, false, false, false, false, false, false, false, false, false, false, false, false, false, false, false, false, false, false, false, false, false] rfl rfl (any_of HT_.out (by kernel_rfl)) (fun _ _ _ h => h) (Or.inl ⟨by rfl, ?_⟩) ?_ ?_
                    rotate_left
                    · intro w'; go_simp; with_reducible rfl
                    rotate_left
                    · simp only [Act.put, List.setIfInBounds_toArray, List.set_cons_zero, List.set_cons_succ, i64_w, i32_w]; rfl
                    refine pure_ (i := 1) (N := some 145) (v := ?_) (a' := ?_) #[true, true, false, false, false, false, false, false, false, false, false, false, false, false, false, false, false, false, false, false, false, false, false, false, false, false, false, false, false, false, false] rfl rfl (any_of HT_.out (by kernel_rfl)) (fun _ _ _ h => h) (Or.inl ⟨by rfl, ?_⟩) ?_ ?_
                    rotate_left
                    · intro w'; go_simp; with_reducible rfl
                    rotate_left
                    · simp only [Act.put, List.setIfInBounds_toArray, List.set_cons_zero, List.set_cons_succ, i64_w, i32_w]; rfl
                    refine pure_ (i := 2) (N := some 146) (v := ?_) (a' := ?_) #[true, true, true, false, false, false, false, false, false, false, false, false, false, false, false, false, false, false, false, false, false, false, false, false, false, false, false, false, false, false, false] rfl rfl (any_of HT_.out (by kernel_rfl)) (fun _ _ _ h => h) (Or.inl ⟨by rfl, ?_⟩) ?_ ?_
                    rotate_left
                    · intro w'; go_simp; with_reducible rfl
                    rotate_left
                    · simp only [Act.put, List.setIfInBounds_toArray, List.set_cons_zero, List.set_cons_succ, i64_w, i32_w]; rfl
                    refine pure_ (i := 3) (N := some 147) (v := ?_) (a' := ?_) #[true, true, true, true, false, false, false, false, false, false, false, false, false, false, false, false, false, false, false, false, false, false, false, false, false, false, false, false, false, false, false] rfl rfl (any_of HT_.out (by kernel_rfl)) (fun _ _ _ h => h) (Or.inl ⟨by rfl, ?_⟩) ?_ ?_
                    rotate_left
                    · intro w'; go_simp; with_reducible rfl
                    rotate_left
                    · simp only [Act.put, List.setIfInBounds_toArray, List.set_cons_zero, List.set_cons_succ, i64_w, i32_w]; rfl
                    refine pure_ (i := 6) (N := some 150) (v := ?_) (a' := ?_) #[true, true, true, true, false, false, true, false, false, false, false, false, false, false, false, false, false, false, false, false, false, false, false, false, false, false, false, false, false, false, false] rfl rfl (any_of HT_.out (by kernel_rfl)) (fun _ _ _ h => h) (Or.inl ⟨by rfl, ?_⟩) ?_ ?_
                    rotate_left
                    · intro w'; go_simp; with_reducible rfl
                    rotate_left
                    · simp only [Act.put, List.setIfInBounds_toArray, List.set_cons_zero, List.set_cons_succ, i64_w, i32_w]; rfl
                    refine pure_ (i := 7) (N := some 151) (v := ?_) (a' := ?_) #[true, true, true, true, false, false, true, true, false, false, false, false, false, false, false, false, false, false, false, false, false, false, false, false, false, false, false, false, false, false, false] rfl rfl (any_of HT_.out (by kernel_rfl)) (fun _ _ _ h => h) (Or.inl ⟨by rfl, ?_⟩) ?_ ?_
                    rotate_left
                    · intro w'; go_simp; with_reducible rfl
                    rotate_left
                    · simp only [Act.put, List.setIfInBounds_toArray, List.set_cons_zero, List.set_cons_succ, i64_w, i32_w]; rfl
                    refine pure_ (i := 8) (N := some 152) (v := ?_) (a' := ?_) #[true, true, true, true, false, false, true, true, true, false, false, false, false, false, false, false, false, false, false, false, false, false, false, false, false, false, false, false, false, false, false] rfl rfl (any_of HT_.out (by kernel_rfl)) (fun _ _ _ h => h) (Or.inl ⟨by rfl, ?_⟩) ?_ ?_
                    rotate_left
                    · intro w'; go_simp; with_reducible rfl
                    rotate_left
                    · simp only [Act.put, List.setIfInBounds_toArray, List.set_cons_zero, List.set_cons_succ, i64_w, i32_w]; rfl
                    refine pure_ (i := 9) (N := some 153) (v := ?_) (a' := ?_) #[true, true, true, true, false, false, true, true, true, true, false, false, false, false, false, false, false, false, false, false, false, false, false, false, false, false, false, false, false, false, false] rfl rfl (any_of HT_.out (by kernel_rfl)) (fun _ _ _ h => h) (Or.inl ⟨by rfl, ?_⟩) ?_ ?_
                    rotate_left
                    · intro w'; go_simp; with_reducible rfl
                    rotate_left
                    · simp only [Act.put, List.setIfInBounds_toArray, List.set_cons_zero, List.set_cons_succ, i64_w, i32_w]; rfl
                    refine take_ (i := 4) (N := some 148) (v := ?_) (a' := ?_) #[true, true, true, true, true, false, true, true, true, true, false, false, false, false, false, false, false, false, false, false, false, false, false, false, false, false, false, false, false, false, false] rfl rfl (take_ofW HT_.out HW_.out (by kernel_rfl)) (fun _ _ _ h => h) (Or.inl ⟨by rfl, ?_⟩) hHeld ?_ ?_
                    rotate_left
                    · rintro w' ⟨s0, s1⟩; go_simp; with_reducible rfl
                    rotate_left
                    · simp only [Act.put, List.setIfInBounds_toArray, List.set_cons_zero, List.set_cons_succ, i64_w, i32_w]; rfl
                    refine take_ (i := 10) (N := some 154) (v := ?_) (a' := ?_) #[true, true, true, true, true, false, true, true, true, true, true, false, false, false, false, false, false, false, false, false, false, false, false, false, false, false, false, false, false, false, false] rfl rfl (take_ofW HT_.out HW_.out (by kernel_rfl)) (fun _ _ _ h => h) (Or.inl ⟨by rfl, ?_⟩) hHeld ?_ ?_
                    rotate_left
                    · rintro w' ⟨s0, s1⟩; go_simp; with_reducible rfl
                    rotate_left
                    · simp only [Act.put, List.setIfInBounds_toArray, List.set_cons_zero, List.set_cons_succ, i64_w, i32_w]; rfl
                    refine one_ (i := 5) (N := some 149) #[true, true, true, true, true, true, true, true, true, true, true, false, false, false, false, false, false, false, false, false, false, false, false, false, false, false, false, false, false, false, false] rfl rfl (one_of HT_.out (by kernel_rfl)) (by decide) (fun K hK => ?_)
                    refine goes_ Try.func25 (by kernel_rfl) rfl #[.int .i64 z0] (by rfl) rfl rfl (by simp only [List.map_toArray, List.map_cons, List.map_nil]; rfl) ?_
                    refine (cost_Level.calls ka z0 lz _ HKA.out).mono ?_
                    rintro e y1 ⟨rfl, hd⟩
                    have HL1 := Aside0.mk ((Below.refl _ wr).drew.trans (drawn_below hd))
                    have HO1 := Aside0.mk (HBk.out.trans (HL1.out.mono HBk.out.size))
                    clear hd
                    refine ⟨_, rfl, hK.out _ _ (HSB.out _ HL1.out) (fun hHeld => ?_)⟩
                    clear hK K
                    refine norm_ (a' := ?_) ?_ ?_
                    rotate_left
                    · show Act.put _ (some 149) _ = _; simp only [Act.put, List.setIfInBounds_toArray, List.set_cons_zero, List.set_cons_succ, i64_w, i32_w]; rfl
                    refine one_ (i := 11) (N := some 155) #[true, true, true, true, true, true, true, true, true, true, true, true, false, false, false, false, false, false, false, false, false, false, false, false, false, false, false, false, false, false, false] rfl rfl (one_of HT_.out (by kernel_rfl)) (by decide) (fun K hK => ?_)
                    refine goes_ Try.func26 (by kernel_rfl) rfl #[.int .i64 z0] (by rfl) rfl rfl (by simp only [List.map_toArray, List.map_cons, List.map_nil]; rfl) ?_
                    refine (chapmanref36_Level.calls kb z0 lz _ HKB.out).mono ?_
                    rintro e y2 ⟨rfl, hd⟩
                    have HL2 := Aside0.mk (HL1.out.trans ((drawn_below hd).mono HL1.out.size))
                    have HO2 := Aside0.mk (HBk.out.trans (HL2.out.mono HBk.out.size))
                    clear hd
                    refine ⟨_, rfl, hK.out _ _ (HSB.out _ HL2.out) (fun hHeld => ?_)⟩
                    clear hK K
                    refine norm_ (a' := ?_) ?_ ?_
                    rotate_left
                    · show Act.put _ (some 155) _ = _; simp only [Act.put, List.setIfInBounds_toArray, List.set_cons_zero, List.set_cons_succ, i64_w, i32_w]; rfl
                    refine pure_ (i := 12) (N := some 156) (v := ?_) (a' := ?_) #[true, true, true, true, true, true, true, true, true, true, true, true, true, false, false, false, false, false, false, false, false, false, false, false, false, false, false, false, false, false, false] rfl rfl (any_of HT_.out (by kernel_rfl)) (fun _ _ _ h => h) (Or.inl ⟨by rfl, ?_⟩) ?_ ?_
                    rotate_left
                    · intro w'; go_simp; with_reducible rfl
                    rotate_left
                    · simp only [Act.put, List.setIfInBounds_toArray, List.set_cons_zero, List.set_cons_succ, i64_w, i32_w]; rfl
                    refine pure_ (i := 13) (N := some 157) (v := ?_) (a' := ?_) #[true, true, true, true, true, true, true, true, true, true, true, true, true, true, false, false, false, false, false, false, false, false, false, false, false, false, false, false, false, false, false] rfl rfl (any_of HT_.out (by kernel_rfl)) (fun _ _ _ h => h) (Or.inl ⟨by rfl, ?_⟩) ?_ ?_
                    rotate_left
                    · intro w'; go_simp; with_reducible rfl
                    rotate_left
                    · simp only [Act.put, List.setIfInBounds_toArray, List.set_cons_zero, List.set_cons_succ, i64_w, i32_w]; rfl
                    refine pure_ (i := 14) (N := some 158) (v := ?_) (a' := ?_) #[true, true, true, true, true, true, true, true, true, true, true, true, true, true, true, false, false, false, false, false, false, false, false, false, false, false, false, false, false, false, false] rfl rfl (any_of HT_.out (by kernel_rfl)) (fun _ _ _ h => h) (Or.inl ⟨by rfl, ?_⟩) ?_ ?_
                    rotate_left
                    · intro w'; go_simp; with_reducible rfl
                    rotate_left
                    · simp only [Act.put, List.setIfInBounds_toArray, List.set_cons_zero, List.set_cons_succ, i64_w, i32_w]; rfl
                    refine pure_ (i := 15) (N := some 159) (v := ?_) (a' := ?_) #[true, true, true, true, true, true, true, true, true, true, true, true, true, true, true, true, false, false, false, false, false, false, false, false, false, false, false, false, false, false, false] rfl rfl (any_of HT_.out (by kernel_rfl)) (fun _ _ _ h => h) (Or.inl ⟨by rfl, ?_⟩) ?_ ?_
                    rotate_left
                    · intro w'; go_simp; with_reducible rfl
                    rotate_left
                    · simp only [Act.put, List.setIfInBounds_toArray, List.set_cons_zero, List.set_cons_succ, i64_w, i32_w]; rfl
                    refine pure_ (i := 16) (N := some 160) (v := ?_) (a' := ?_) #[true, true, true, true, true, true, true, true, true, true, true, true, true, true, true, true, true, false, false, false, false, false, false, false, false, false, false, false, false, false, false] rfl rfl (any_of HT_.out (by kernel_rfl)) (fun _ _ _ h => h) (Or.inl ⟨by rfl, ?_⟩) ?_ ?_
                    rotate_left
                    · intro w'; go_simp; with_reducible rfl
                    rotate_left
                    · simp only [Act.put, List.setIfInBounds_toArray, List.set_cons_zero, List.set_cons_succ, i64_w, i32_w]; rfl
                    refine pure_ (i := 17) (N := some 161) (v := ?_) (a' := ?_) #[true, true, true, true, true, true, true, true, true, true, true, true, true, true, true, true, true, true, false, false, false, false, false, false, false, false, false, false, false, false, false] rfl rfl (any_of HT_.out (by kernel_rfl)) (fun _ _ _ h => h) (Or.inl ⟨by rfl, ?_⟩) ?_ ?_
                    rotate_left
                    · intro w'; go_simp; with_reducible rfl
                    rotate_left
                    · simp only [Act.put, List.setIfInBounds_toArray, List.set_cons_zero, List.set_cons_succ, i64_w, i32_w]; rfl
                    refine pure_ (i := 18) (N := some 162) (v := ?_) (a' := ?_) #[true, true, true, true, true, true, true, true, true, true, true, true, true, true, true, true, true, true, true, false, false, false, false, false, false, false, false, false, false, false, false] rfl rfl (any_of HT_.out (by kernel_rfl)) (fun _ _ _ h => h) (Or.inl ⟨by rfl, ?_⟩) ?_ ?_
                    rotate_left
                    · intro w'; go_simp; with_reducible rfl
                    rotate_left
                    · simp only [Act.put, List.setIfInBounds_toArray, List.set_cons_zero, List.set_cons_succ, i64_w, i32_w]; rfl
                    refine pure_ (i := 21) (N := some 165) (v := ?_) (a' := ?_) #[true, true, true, true, true, true, true, true, true, true, true, true, true, true, true, true, true, true, true, false, false, true, false, false, false, false, false, false, false, false, false] rfl rfl (any_of HT_.out (by kernel_rfl)) (fun _ _ _ h => h) (Or.inl ⟨by rfl, ?_⟩) ?_ ?_
                    rotate_left
                    · intro w'; go_simp; with_reducible rfl
                    rotate_left
                    · simp only [Act.put, List.setIfInBounds_toArray, List.set_cons_zero, List.set_cons_succ, i64_w, i32_w]; rfl
                    refine pure_ (i := 22) (N := some 166) (v := ?_) (a' := ?_) #[true, true, true, true, true, true, true, true, true, true, true, true, true, true, true, true, true, true, true, false, false, true, true, false, false, false, false, false, false, false, false] rfl rfl (any_of HT_.out (by kernel_rfl)) (fun _ _ _ h => h) (Or.inl ⟨by rfl, ?_⟩) ?_ ?_
                    rotate_left
                    · intro w'; go_simp; with_reducible rfl
                    rotate_left
                    · simp only [Act.put, List.setIfInBounds_toArray, List.set_cons_zero, List.set_cons_succ, i64_w, i32_w]; rfl
                    refine pure_ (i := 23) (N := some 167) (v := ?_) (a' := ?_) #[true, true, true, true, true, true, true, true, true, true, true, true, true, true, true, true, true, true, true, false, false, true, true, true, false, false, false, false, false, false, false] rfl rfl (any_of HT_.out (by kernel_rfl)) (fun _ _ _ h => h) (Or.inl ⟨by rfl, ?_⟩) ?_ ?_
                    rotate_left
                    · intro w'; go_simp; with_reducible rfl
                    rotate_left
                    · simp only [Act.put, List.setIfInBounds_toArray, List.set_cons_zero, List.set_cons_succ, i64_w, i32_w]; rfl
                    refine pure_ (i := 24) (N := some 168) (v := ?_) (a' := ?_) #[true, true, true, true, true, true, true, true, true, true, true, true, true, true, true, true, true, true, true, false, false, true, true, true, true, false, false, false, false, false, false] rfl rfl (any_of HT_.out (by kernel_rfl)) (fun _ _ _ h => h) (Or.inl ⟨by rfl, ?_⟩) ?_ ?_
                    rotate_left
                    · intro w'; go_simp; with_reducible rfl
                    rotate_left
                    · simp only [Act.put, List.setIfInBounds_toArray, List.set_cons_zero, List.set_cons_succ, i64_w, i32_w]; rfl
                    refine pure_ (i := 25) (N := some 169) (v := ?_) (a' := ?_) #[true, true, true, true, true, true, true, true, true, true, true, true, true, true, true, true, true, true, true, false, false, true, true, true, true, true, false, false, false, false, false] rfl rfl (any_of HT_.out (by kernel_rfl)) (fun _ _ _ h => h) (Or.inl ⟨by rfl, ?_⟩) ?_ ?_
                    rotate_left
                    · intro w'; go_simp; with_reducible rfl
                    rotate_left
                    · simp only [Act.put, List.setIfInBounds_toArray, List.set_cons_zero, List.set_cons_succ, i64_w, i32_w]; rfl
                    refine take_ (i := 19) (N := some 163) (v := ?_) (a' := ?_) #[true, true, true, true, true, true, true, true, true, true, true, true, true, true, true, true, true, true, true, true, false, true, true, true, true, true, false, false, false, false, false] rfl rfl (take_ofW HT_.out HW_.out (by kernel_rfl)) (fun _ _ _ h => h) (Or.inl ⟨by rfl, ?_⟩) hHeld ?_ ?_
                    rotate_left
                    · rintro w' ⟨s0, s1⟩; go_simp; with_reducible rfl
                    rotate_left
                    · simp only [Act.put, List.setIfInBounds_toArray, List.set_cons_zero, List.set_cons_succ, i64_w, i32_w]; rfl
                    refine take_ (i := 26) (N := some 170) (v := ?_) (a' := ?_) #[true, true, true, true, true, true, true, true, true, true, true, true, true, true, true, true, true, true, true, true, false, true, true, true, true, true, true, false, false, false, false] rfl rfl (take_ofW HT_.out HW_.out (by kernel_rfl)) (fun _ _ _ h => h) (Or.inl ⟨by rfl, ?_⟩) hHeld ?_ ?_
                    rotate_left
                    · rintro w' ⟨s0, s1⟩; go_simp; with_reducible rfl
                    rotate_left
                    · simp only [Act.put, List.setIfInBounds_toArray, List.set_cons_zero, List.set_cons_succ, i64_w, i32_w]; rfl
                    refine one_ (i := 20) (N := some 164) #[true, true, true, true, true, true, true, true, true, true, true, true, true, true, true, true, true, true, true, true, true, true, true, true, true, true, true, false, false, false, false] rfl rfl (one_of HT_.out (by kernel_rfl)) (by decide) (fun K hK => ?_)
                    refine goes_ Try.func23 (by kernel_rfl) rfl #[.slice A0 p.length c0, .int .i64 z1] (by rfl) rfl rfl (by simp only [List.map_toArray, List.map_cons, List.map_nil]; rfl) ?_
                    refine (worth23 A0 c0 p z1 _ (Kd.C_below HCP.out HO2.out) hcp hpl).mono ?_
                    rintro e y3 ⟨A1, c1, A2, c2, rfl, l1, l2, C1, C2, hb⟩
                    have HC1 := Aside0.mk C1
                    have HC2 := Aside0.mk C2
                    have HL3 := Aside0.mk (HL2.out.trans (hb.mono HL2.out.size))
                    clear hb C1 C2
                    have HO3 := Aside0.mk (HBk.out.trans (HL3.out.mono HBk.out.size))
                    refine ⟨_, rfl, hK.out _ _ (HSB.out _ HL3.out) (fun hHeld => ?_)⟩
                    clear hK K
                    refine norm_ (a' := ?_) ?_ ?_
                    rotate_left
                    · show Act.put _ (some 164) _ = _; simp only [Act.put, List.setIfInBounds_toArray, List.set_cons_zero, List.set_cons_succ, i64_w, i32_w]; rfl
                    refine one_ (i := 27) (N := some 171) #[true, true, true, true, true, true, true, true, true, true, true, true, true, true, true, true, true, true, true, true, true, true, true, true, true, true, true, true, false, false, false] rfl rfl (one_of HT_.out (by kernel_rfl)) (by decide) (fun K hK => ?_)
                    refine goes_ Try.func24 (by kernel_rfl) rfl #[.slice A0 p.length c0, .int .i64 z1] (by rfl) rfl rfl (by simp only [List.map_toArray, List.map_cons, List.map_nil]; rfl) ?_
                    refine (worthIn24 A0 c0 p z1 _ (Kd.C_below HCP.out HO3.out) hcp hpl).mono ?_
                    rintro e y4 ⟨B1, d1, B2, d2, rfl, m1, m2, D1, D2, hb⟩
                    have HA1 := Aside0.mk (Kd.C_below HC1.out hb)
                    have HA2 := Aside0.mk (Kd.C_below HC2.out hb)
                    have HD1 := Aside0.mk D1
                    have HD2 := Aside0.mk D2
                    have HL4 := Aside0.mk (HL3.out.trans (hb.mono HL3.out.size))
                    clear hb D1 D2 HC1 HC2
                    have HO4 := Aside0.mk (HBk.out.trans (HL4.out.mono HBk.out.size))
                    refine ⟨_, rfl, hK.out _ _ (HSB.out _ HL4.out) (fun hHeld => ?_)⟩
                    clear hK K
                    refine norm_ (a' := ?_) ?_ ?_
                    rotate_left
                    · show Act.put _ (some 171) _ = _; simp only [Act.put, List.setIfInBounds_toArray, List.set_cons_zero, List.set_cons_succ, i64_w, i32_w]; rfl
                    refine one_ (i := 28) (N := some 172) #[true, true, true, true, true, true, true, true, true, true, true, true, true, true, true, true, true, true, true, true, true, true, true, true, true, true, true, true, true, false, false] rfl rfl (one_of HT_.out (by kernel_rfl)) (by decide) (fun K hK => ?_)
                    refine goes_ Try.func14 (by kernel_rfl) rfl #[.agg #[.slice A1 (worthR p z1).1.length c1, .slice A2 (worthR p z1).2.1.length c2, .int .i64 (worthR p z1).2.2.1, .int .i64 (worthR p z1).2.2.2], .agg #[.slice B1 (worthR p z1).1.length d1, .slice B2 (worthR p z1).2.1.length d2, .int .i64 (worthR p z1).2.2.1, .int .i64 (worthR p z1).2.2.2]] (by rfl) rfl rfl (by simp only [List.map_toArray, List.map_cons, List.map_nil]; rfl) ?_
                    refine (alike14 (worthR p z1) (worthR_ok2 p z1) A1 A2 B1 B2 c1 c2 d1 d2 y4 l1 l2 HA1.out HA2.out m1 m2 HD1.out HD2.out).mono ?_
                    rintro e y5 ⟨rfl, hb⟩
                    have HL5 := Aside0.mk (HL4.out.trans (hb.mono HL4.out.size))
                    have HO5 := Aside0.mk (HBk.out.trans (HL5.out.mono HBk.out.size))
                    clear hb HA1 HA2 HD1 HD2 l1 l2 m1 m2
                    refine ⟨_, rfl, hK.out _ _ (HSB.out _ HL5.out) (fun hHeld => ?_)⟩
                    clear hK K
                    refine norm_ (a' := ?_) ?_ ?_
                    rotate_left
                    · show Act.put _ (some 172) _ = _; simp only [Act.put, List.setIfInBounds_toArray, List.set_cons_zero, List.set_cons_succ, i64_w, i32_w]; rfl
                    refine pure_ (i := 29) (N := some 173) (v := ?_) (a' := ?_) #[true, true, true, true, true, true, true, true, true, true, true, true, true, true, true, true, true, true, true, true, true, true, true, true, true, true, true, true, true, true, false] rfl rfl (any_of HT_.out (by kernel_rfl)) (fun _ _ _ h => h) (Or.inl ⟨by rfl, ?_⟩) ?_ ?_
                    rotate_left
                    · intro w'; go_simp; with_reducible rfl
                    rotate_left
                    · simp only [Act.put, List.setIfInBounds_toArray, List.set_cons_zero, List.set_cons_succ, i64_w, i32_w]; rfl
                    refine pure_ (i := 30) (N := some 174) (v := ?_) (a' := ?_) #[true, true, true, true, true, true, true, true, true, true, true, true, true, true, true, true, true, true, true, true, true, true, true, true, true, true, true, true, true, true, true] rfl rfl (any_of HT_.out (by kernel_rfl)) (fun _ _ _ h => h) (Or.inl ⟨by rfl, ?_⟩) ?_ ?_
                    rotate_left
                    · intro w'; go_simp; with_reducible rfl
                    rotate_left
                    · simp only [Act.put, List.setIfInBounds_toArray, List.set_cons_zero, List.set_cons_succ, i64_w, i32_w]; rfl
                    refine done_ (done_of HT_.out (by kernel_rfl)) ?_
                    clear HSB hHeld HT_ HW_ HL1 HL2 HL3 HL4 HL5 HO1 HO2 HO3 HO4 HBk
                    go_wp2
                    go_roundw
                    case rel => exact ⟨k + 1, by omega, by go_num, HO5⟩
                    case measure => simp [intOf]; omega
                  · obtain rfl : k = z.length := by omega
                    have HBN := Aside0.mk (HO.out.trans (HBk.out.mono HO.out.size))
                    go_wp2
                    go_roundw
                    case rel => exact ⟨i + 1, by omega, by go_num, HBN⟩
                    case measure => simp [intOf]; omega
          · have HBF := Aside0.mk (below_step HB7.out HB.out)
            go_wp2
            go_ret
            exact ⟨rfl, HBF.out⟩
end Go.Proofs.Ytckempgpaojljaa.P
end
section
/- Bounds of bytes out of a reading. -/
namespace Go.Proofs.Ytckempgpaojljaa.P
set_option linter.unusedVariables false
set_option linter.unusedSimpArgs false
open Go.RowKit Go.Proofs.YtckempgpaojljaaW.PrintWords Go.Proofs.YtckempgpaojljaaW.PrintLast Go.Proofs.YtckempgpaojljaaW.PrintMore
instance : Inhabited S50 := ⟨z50⟩
instance : Inhabited S43 := ⟨z43⟩
theorem u8_bd {n : Int} (h : (Lit.int .u8 n).wf = true) : 0 ≤ n ∧ n ≤ 255 := by
  simp [Lit.wf, IntKind.min, IntKind.max, IntKind.signed, IntKind.bits] at h
  omega
theorem i64_bd {n : Int} (h : (Lit.int .i64 n).wf = true) : -9223372036854775808 ≤ n ∧ n ≤ 9223372036854775807 := by
  simp [Lit.wf, IntKind.min, IntKind.max, IntKind.signed, IntKind.bits] at h
  omega
theorem bytes2_of {l : List S50} (h : ∀ p ∈ l, (Lit.int .u8 p.f0).wf = true ∧ (Lit.int .u8 p.f1).wf = true) : bytes2 l := fun p hp => by
  have := h p hp
  have a := u8_bd this.1
  have b := u8_bd this.2
  omega
end Go.Proofs.Ytckempgpaojljaa.P
end
section
/- Arguments opened, with what their weights allow. -/
namespace Go.Proofs.Ytckempgpaojljaa.P
set_option linter.unusedVariables false
set_option linter.unusedSimpArgs false
open Go.RowKit Go.Proofs.YtckempgpaojljaaW.PrintWords Go.Proofs.YtckempgpaojljaaW.PrintLast Go.Proofs.YtckempgpaojljaaW.PrintMore
def OpensW {α : Type} (d : Kd α) (t : TypeId) (ok : α → Prop) : Prop := ∀ {H : Type} {enc : TypeId × Value → H} {W : World} {base : Nat} {spare : Nat → Bool} {held : Bool} {fuel : Nat} {cs : List Value} {x : DataW H × List MemPlace},
  DataW.trod enc Try.prog W base spare held fuel t cs = some x → (∀ n ∈ x.1.weights Try.prog t, n ≤ reachBytes) → ∃ a, d.K W a cs ∧ ok a
theorem opensW_of {α : Type} {d : Kd α} {t : TypeId} {ok : α → Prop} (h : Opens d t ok) : OpensW d t ok := by
  intro H enc W base spare held fuel cs x hx _
  exact h hx
theorem weightsAll_mem {H : Type} {P : Program} {e : TypeId} : ∀ {l : List (DataW H)} {D : DataW H}, D ∈ l → ∀ n ∈ D.weights P e, n ∈ DataW.weightsAll P e l
  | d :: r, D, hD, n, hn => by
    simp only [DataW.weightsAll, List.mem_append]
    rcases List.mem_cons.1 hD with h | h
    · subst h; exact .inl hn
    · exact .inr (weightsAll_mem h n hn)
theorem opensW_slice {α : Type} [Inhabited α] {d : Kd α} {t e : TypeId} {ok : α → Prop} (ht : Try.prog.underlying t = some (.slice e)) (hd : OpensW d e ok) (hs : Try.prog.cellsOf e = d.sz) : OpensW (Kd.slice e d) t (fun xs => (∀ a ∈ xs, ok a) ∧ xs.length * Try.prog.bytesOf e ≤ reachBytes) := by
  intro H enc W base spare held fuel cs x h hw
  rcases Deep.open_slice ht h with ⟨rfl, _⟩ | ⟨a, len, cap, m, n, D, Pl, rfl, hb, hl, hm, hmm, rfl, hx⟩
  · exact ⟨[], ⟨none, 0, rfl, Nat.le_refl _, Kd.C_nil _ _⟩, by simp, by simp⟩
  · have hlm : len ≤ m := by rw [hmm]; split <;> omega
    have hwt : (DataW.slice ((List.range len).map D) ((List.range (m - len)).map fun j => D (len + j))).weights Try.prog t = (((List.range len).map D).length + ((List.range (m - len)).map fun j => D (len + j)).length) * Try.prog.bytesOf e :: (DataW.weightsAll Try.prog e ((List.range len).map D) ++ DataW.weightsAll Try.prog e ((List.range (m - len)).map fun j => D (len + j))) := by
      simp only [DataW.weights, ht]
    have hw' : ∀ n ∈ (((List.range len).map D).length + ((List.range (m - len)).map fun j => D (len + j)).length) * Try.prog.bytesOf e :: (DataW.weightsAll Try.prog e ((List.range len).map D) ++ DataW.weightsAll Try.prog e ((List.range (m - len)).map fun j => D (len + j))), n ≤ reachBytes := fun n hn => hw n (by rw [hwt]; exact hn)
    have hlb : len * Try.prog.bytesOf e ≤ reachBytes := by
      have h1 := hw' _ (List.mem_cons_self)
      simp only [List.length_map, List.length_range] at h1
      exact Nat.le_trans (Nat.mul_le_mul_right _ (Nat.le_add_right _ _)) h1
    obtain ⟨f, hf⟩ := Deep.choose_lt (n := len) (p := fun i y => (∃ cs', W.cells? base (a.add (i * d.sz)) d.sz = some cs' ∧ d.K W y cs') ∧ ok y) (fun i hi => by
      obtain ⟨cs', h1, h2⟩ := hx i (by omega)
      rw [hs] at h1
      obtain ⟨y, hy, oy⟩ := hd h2 (fun n hn => hw' n (by
        refine List.mem_cons_of_mem _ (List.mem_append_left _ (weightsAll_mem (D := D i) ?_ n hn))
        exact List.mem_map.2 ⟨i, List.mem_range.2 hi, rfl⟩))
      exact ⟨y, ⟨cs', h1, hy⟩, oy⟩)
    have hlen : ((List.range len).map f).length = len := by simp
    refine ⟨(List.range len).map f, ⟨some a, cap, by rw [hlen], by rw [hlen]; exact hl, ?_⟩, fun y hy => ?_, by rw [hlen]; exact hlb⟩
    · refine ⟨rfl, ?_, fun _ => ⟨a, rfl, fun j p hp => ?_⟩⟩
      · rw [hlen]
        have : maxLen ≤ 9223372036854775807 := by decide
        omega
      · have hj : j < len := by have := (List.getElem?_eq_some_iff.1 hp).1; rwa [hlen] at this
        have e : f j = p := by
          rw [List.getElem?_map, List.getElem?_range hj] at hp
          exact Option.some.inj hp
        obtain ⟨⟨cs', h1, h2⟩, _⟩ := hf j hj
        obtain ⟨_, h3, h4⟩ := World.cells?_some h1
        refine ⟨cs', h3, by rw [← e]; exact h2, fun i u hu => ?_⟩
        have hi : i < d.sz := by have := (List.getElem?_eq_some_iff.1 hu).1; omega
        have := h4 i hi
        rw [Deep.add_add] at this
        rw [this]
        exact hu
    · obtain ⟨i, hi, rfl⟩ := List.mem_map.1 hy
      exact (hf i (List.mem_range.1 hi)).2
theorem open_atW {α : Type} {d : Kd α} {t : TypeId} {ok : α → Prop} (hd : OpensW d t ok) {H : Type} {enc : TypeId × Value → H} {W : World} {base : Nat} {spare : Nat → Bool} {held : Bool} {v : Value} {D : DataW H} {ps : List MemPlace} (h : DataW.Trod enc Try.prog W base spare held t v D ps)
    {ts : List TypeId} {ds : List (DataW H)} {j : Nat} (hsz : (DataW.weightsEach Try.prog ts ds).all (· ≤ reachBytes) = true) (hj : ts[j]? = some t) (hD : ds[j]? = some D) : ∃ a, d.K W a v.cells.toList ∧ ok a := by
  obtain ⟨fuel, hf⟩ := h
  exact hd hf fun n hn => of_decide_eq_true (List.all_eq_true.1 hsz _ (DataW.weights_mem_each hj hD n hn))
end Go.Proofs.Ytckempgpaojljaa.P
end
section
/- Pieces as arguments, with what their weights allow. -/
namespace Go.Proofs.Ytckempgpaojljaa.P
set_option linter.unusedVariables false
open Go.RowKit Go.Proofs.YtckempgpaojljaaW.PrintWords Go.Proofs.YtckempgpaojljaaW.PrintLast Go.Proofs.YtckempgpaojljaaW.PrintMore
theorem len_of {n b : Nat} (h : n * b ≤ reachBytes) (hb : decide (8 ≤ b) = true) : n ≤ 1000000000000000 := by
  have h1 := of_decide_eq_true hb
  have h2 : n * 8 ≤ n * b := Nat.mul_le_mul_left _ h1
  have h3 : reachBytes = 140737488351232 := by decide
  omega
theorem opens_43 : Opens k43 43 (fun p => (Lit.int .i64 p.f0).wf = true ∧ (Lit.int .i64 p.f1).wf = true) :=
  opens_iso (fun x : S43 => (x.f0, x.f1)) (fun p => ⟨p.1, p.2⟩) (fun _ => rfl) (opens_st2 Try.underlying43 (opens_int Try.underlying3) (opens_int Try.underlying3) rfl rfl (by kernel_rfl) (by kernel_rfl) (by kernel_rfl))
end Go.Proofs.Ytckempgpaojljaa.P
end
section
/- The row of the law CostMatchesReference, out of its walk. -/
namespace Go.Proofs.Ytckempgpaojljaa.costMatchesReference
open Go.ChangeShapes Go.WideShapes Go.ChangeAt Go.RowKit Go.Proofs.YtckempgpaojljaaW.PrintWords Go.Proofs.Ytckempgpaojljaa.P
open Go.ChangeMaps (open_string shut_string)
set_option linter.unusedVariables false
theorem own : ownKnob Try.prog.godebug = none := by kernel_rfl
theorem laidOut : laidOutB Try.prog = true := by kernel_rfl
set_option maxRecDepth 100000 in
theorem lifted (os : Os) (started : os.Started) (H : Type) (enc : TypeId × Value → H) :
    ReturnsInHanded {} Try.checked os 3 .any (Rows.costMatchesReferenceSpec.pre6 enc Try.prog Try.f3 Rows.costMatchesReferenceRow.domain false) (Rows.costMatchesReferenceSpec.post enc Try.prog Try.f3 false true false false) := by
  refine returnsInHanded_of_change_sized (C := Try.checked) own started (by kernel_rfl) Try.func3
    (ChangeSpec.witness6 (enc := enc) (C := Try.checked) false ⟨#[], #[.slice none 0 0, .slice none 0 0, .slice none 0 0], []⟩ 8 (by kernel_rfl) (by kernel_rfl) (by kernel_rfl) (by kernel_rfl)) ?_
  intro W base args ds gs before hval0 hW hcnd hsz0 _
  have hsz : (DataW.weightsEach Try.prog (Try.f3.params.toList ++ Rows.costMatchesReferenceSpec.plain.varTypes Try.prog) (ds ++ gs)).all (· ≤ reachBytes) = true := hsz0
  have hval : ∀ (j : Nat) t v, Try.f3.params[j]? = some t → args[j]? = some v → Value.okWide Try.prog W .any base t v := hval0
  have hW' := hW
  obtain ⟨p, q, hA0, hV, rfl, hfz, hnd⟩ := hW
  have hA : DataW.TrodAll enc Try.prog W 0 (fun _ => true) true Try.f3.params.toList args.toList ds p := hA0
  rw [Try.params3] at hA hval
  obtain ⟨v0, vs0, d0, ds0, p0, q0, hargs, rfl, rfl, h0, r0⟩ := trodAll_cons hA
  obtain ⟨v1, vs1, d1, ds1, p1, q1, rfl, rfl, rfl, h1, r1⟩ := trodAll_cons r0
  obtain ⟨v2, vs2, d2, ds2, p2, q2, rfl, rfl, rfl, h2, r2⟩ := trodAll_cons r1
  obtain ⟨rfl, rfl, rfl⟩ := trodAll_nil r2
  obtain rfl : args = #[v0, v1, v2] := by cases args; simp_all
  obtain ⟨rfl, rfl⟩ := trodVars_none hV
  have k0 := h0
  have lt0 : ∀ x ∈ p0, x.block < W.heap.size := by obtain ⟨m, hm⟩ := k0; exact DataW.trod_lt m _ _ _ hm
  obtain ⟨a0, len0, cap0, rfl⟩ := okWide_slice Try.underlying22 (hval 0 22 v0 rfl rfl)
  obtain ⟨l0, ⟨A0, c0, e0, L0, C0⟩, O0⟩ := open_at (opens_slice (d := k50) (α := S50) Try.underlying22 (opens_iso (fun x : S50 => (x.f0, x.f1)) (fun p => ⟨p.1, p.2⟩) (fun _ => rfl) (opens_arr2 Try.underlying50 (opens_int Try.underlying5) (by kernel_rfl) (by kernel_rfl))) (by kernel_rfl)) h0
  have e0_ : (Value.slice a0 len0 cap0) = .slice A0 l0.length c0 := List.head_eq_of_cons_eq e0
  injection e0_ with e0A e0L e0C
  subst e0A e0L e0C
  have k1 := h1
  have lt1 : ∀ x ∈ p1, x.block < W.heap.size := by obtain ⟨m, hm⟩ := k1; exact DataW.trod_lt m _ _ _ hm
  obtain ⟨a1, len1, cap1, rfl⟩ := okWide_slice Try.underlying23 (hval 1 23 v1 rfl rfl)
  obtain ⟨l1, ⟨A1, c1, e1, L1, C1⟩, O1⟩ := open_atW (opensW_slice (d := k43) (α := S43) Try.underlying23 (opensW_of opens_43) (by kernel_rfl)) h1 hsz (j := 1) rfl rfl
  have e1_ : (Value.slice a1 len1 cap1) = .slice A1 l1.length c1 := List.head_eq_of_cons_eq e1
  injection e1_ with e1A e1L e1C
  subst e1A e1L e1C
  have k2 := h2
  have lt2 : ∀ x ∈ p2, x.block < W.heap.size := by obtain ⟨m, hm⟩ := k2; exact DataW.trod_lt m _ _ _ hm
  obtain ⟨a2, len2, cap2, rfl⟩ := okWide_slice Try.underlying24 (hval 2 24 v2 rfl rfl)
  obtain ⟨l2, ⟨A2, c2, e2, L2, C2⟩, O2⟩ := open_atW (opensW_slice (d := Kd.slice 3 (Kd.int .i64)) Try.underlying24 (opensW_slice (d := Kd.int .i64) Try.underlying26 (opensW_of (opens_int Try.underlying3)) (by kernel_rfl)) (by kernel_rfl)) h2 hsz (j := 2) rfl rfl
  have e2_ : (Value.slice a2 len2 cap2) = .slice A2 l2.length c2 := List.head_eq_of_cons_eq e2
  injection e2_ with e2A e2L e2C
  subst e2A e2L e2C
  clear hA0 hval0 hsz0
  refine (match3 a0 cap0 l0 a1 cap1 l1 a2 cap2 l2 W C0 L0 (bytes2_of O0.1) C1 L1 (len_of O1.2 (by kernel_rfl)) (fun p hp => (i64_bd (O1.1 p hp).1).2) C2 L2 (len_of O2.2 (by kernel_rfl)) (fun a ha => len_of (O2.1 a ha).2 (by kernel_rfl))).mono fun e W' ⟨he, bel⟩ => ?_
  subst he
  exact ⟨_, rfl, _, _, _, [], _, [], hW', trodAll_mk1 (shut_bool Try.underlying4 _), (trodAll_cons_mk (Below.trod laidOut (by kernel_rfl) (of_decide_eq_true (by kernel_rfl)) k0 bel lt0) (trodAll_cons_mk (Below.trod laidOut (by kernel_rfl) (of_decide_eq_true (by kernel_rfl)) k1 bel lt1) (trodAll_cons_mk (Below.trod laidOut (by kernel_rfl) (of_decide_eq_true (by kernel_rfl)) k2 bel lt2) trodAll_mk0))), rfl, bel.frame _, fun h => by cases h⟩
theorem over : Rows.costMatchesReferenceRow.holds Try.pinned (OpenSpec.ofChange Rows.costMatchesReferenceSpec) :=
  OpenClaim.holds_of_wide 3 Try.f3 rfl rfl rfl rfl rfl rfl rfl ⟨rfl, rfl, rfl, rfl, rfl⟩ rfl rfl rfl rfl rfl (by kernel_rfl) Try.func3 (by kernel_rfl)
    (of_decide_eq_true (by kernel_rfl)) (by unfold Func.isWrapper; first | (rw [if_pos (by decide +kernel)]; kernel_rfl) | (rw [if_neg (by decide +kernel)]; exact ⟨rfl, rfl⟩))
    (fun os started H enc _ => lifted os started H enc)
theorem proved : Rows.CostMatchesReferenceSaid := over
end Go.Proofs.Ytckempgpaojljaa.costMatchesReference
namespace Go.Proofs.Ytckempgpaojljaa
theorem costMatchesReference_holds : Rows.CostMatchesReferenceSaid := costMatchesReference.proved
end Go.Proofs.Ytckempgpaojljaa
end
