/- Part of a proof: contracts and lemmas that the row's text uses; joined by a program. -/
import Derived.Test.YtbhckhblonkajaaH04
import Derived.Test.YtbhckhblonkajaaH05
set_option linter.unusedVariables false
set_option linter.unusedSimpArgs false
namespace Go.Proofs.Ytbhckhblonkajaa.Q
open Go.RowKit Go.Proofs.YtbhckhblonkajaaW.PrintWords Go.Proofs.YtbhckhblonkajaaW.PrintLast Go.Proofs.YtbhckhblonkajaaW.PrintMore
attribute [local go_sem] max2_int min2_int max_two min_two max_three min_three max_four min_four
mutual
def impl_FirstFailure.l0 : Nat → List Int → Int → Int → Int → List Int → Option (Int × Int × Int × Bool)
 | 0, _, _, _, _, _ => none
 | k + 1, x19, x20, x21, xB, xA => if x21 < x20 then (if 0 ≤ x21 then (if x21 < (x19.length : Int) then (impl_FirstFailure.l1 k x19 x20 x21 xA (xA.length : Int) 0 xB xA (rd x19 x21)) else (none)) else (none)) else (some (0, 0, 0, false))
def impl_FirstFailure.l1 : Nat → List Int → Int → Int → List Int → Int → Int → Int → List Int → Int → Option (Int × Int × Int × Bool)
 | 0, _, _, _, _, _, _, _, _, _ => none
 | k + 1, x19, x20, x21, x26, x27, x28, xB, xA, xC => if x28 < x27 then (if 0 ≤ x28 then (if x28 < (x26.length : Int) then ((impl_ElementsOf.f k (Go.bits .andNot .i64 xC (rd x26 x28))).bind fun tD => (impl_FirstFailure.l2 k (rd x26 x28) x19 x20 x21 x26 x27 x28 tD (tD.length : Int) 0 xB xA xC)) else (none)) else (none)) else (impl_FirstFailure.l0 k x19 x20 (wrap64 (x21 + 1)) xB xA)
def impl_FirstFailure.l2 : Nat → Int → List Int → Int → Int → List Int → Int → Int → List Int → Int → Int → Int → List Int → Int → Option (Int × Int × Int × Bool)
 | 0, _, _, _, _, _, _, _, _, _, _, _, _, _ => none
 | k + 1, x7, x19, x20, x21, x26, x27, x28, x35, x36, x37, xB, xA, xC => if x37 < x36 then (if 0 ≤ x37 then (if x37 < (x35.length : Int) then ((impl_ElementsOf.f k (Go.bits .andNot .i64 x7 xC)).bind fun tE => ((impl_FirstFailure_any.f tE xB xA xC (rd x35 x37)).bind fun tF => (if tF = true then (impl_FirstFailure.l2 k x7 x19 x20 x21 x26 x27 x28 x35 x36 (wrap64 (x37 + 1)) xB xA xC) else (some (xC, x7, rd x35 x37, true))))) else (none)) else (none)) else (impl_FirstFailure.l1 k x19 x20 x21 x26 x27 (wrap64 (x28 + 1)) xB xA xC)
end
def impl_FirstFailure.f (k : Nat) (a0_0 : Int) (l0_1 : List Int) : Option (Int × Int × Int × Bool) := (impl_IsFamily.f k a0_0 l0_1).bind fun tA => (if tA = true then (impl_FirstFailure.l0 k l0_1 (l0_1.length : Int) 0 a0_0 l0_1) else (some (0, 0, 0, false)))
set_option maxHeartbeats 8000000 in
set_option maxRecDepth 100000 in
theorem impl_FirstFailure.calls (k : Nat) (a0_0 : Int) (A0_1 : Option Addr) (c0_1 : Nat) (l0_1 : List Int) (r1 : Int) (r2 : Int) (r3 : Int) (r4 : Bool) (w : World) (hr0_1 : Kd.C (Kd.int .i64) w A0_1 l0_1.length l0_1) (hc0_1 : l0_1.length ≤ c0_1) (h : impl_FirstFailure.f k a0_0 l0_1 = some (r1, r2, r3, r4)) :
  Calls Try.prog 45 #[.agg #[.int .i64 a0_0, .slice A0_1 l0_1.length c0_1]] w fun e w' => e = .returned (.tuple #[.agg #[.int .i64 r1, .int .i64 r2, .int .i64 r3], .bool r4]) ∧ Below w.heap.size w w' := by
 have hu27 := Try.underlying27
 have hu50 := Try.underlying50
 have HR0_1 := Aside0.mk hr0_1
 have HC0_1 := Aside0.mk hc0_1
 clear hr0_1 hc0_1
 have HB := Aside0.mk (Below.refl w.heap.size w)
 have H : ((impl_IsFamily.f k a0_0 l0_1).bind fun tQ => (if tQ = true then (impl_FirstFailure.l0 k l0_1 (l0_1.length : Int) 0 a0_0 l0_1) else (some (0, 0, 0, false)))) = some (r1, r2, r3, r4) := h
 clear h
 replace H := bS H
 obtain ⟨tQ, A2, H⟩ := H
 by_cases c3 : tQ = true
 ·subst c3
  replace H := iP H
  have H' := Aside0.mk H
  clear H
  go_enter Try.func45, Try.ntmps45
  go_wp2_with (first | (refine bE 1 #[.int .i64 a0_0, .slice A0_1 l0_1.length c0_1] 27 ?_; intro gbB hg w4 hbox hb; have BKB := Aside0.mk hbox; have GWB := aZ w hg; have GEB := aZ w hg; replace HB := aH hb; clear hb hbox hg) | (refine bE 2 #[.int .i64 0, .int .i64 0, .int .i64 0] 50 ?_; intro gbA hg w5 hbox hb; have BKA := Aside0.mk hbox; have GWA := aZ w hg; have GEA := aZ w hg; replace HB := aH hb; have NBB_A := aL BKB hg; have NBA_B := aG BKB hg; replace BKB := aB BKB hb; clear hb hbox hg; have hnb6 := NBB_A.out; have hnc6 := NBA_B.out; obtain ⟨hcz7_0, hcz7_1, hfz7_0, hfz7_1⟩ := bc2 BKB.out) | ((with_reducible refine gate_callee (f := 46) rfl ?_); refine goesL_ (some 15) rfl rfl Try.func46 kr rfl #[.int .i64 a0_0, .slice A0_1 l0_1.length c0_1] rfl p5 ?_; (with_reducible refine (impl_IsFamily.calls k a0_0 _ _ l0_1 true _ ?side1 ?side2 A2.out).mono ?_); (case side1 => exact pC (Kd.C_below HR0_1.out HB.out)); (case side2 => exact HC0_1.out); rintro e w' ⟨rfl, ⟨nd, rfl⟩⟩; refine ⟨_, rfl, ?_⟩))
  go_loopg [21] k (fun kq v21 w' => ∃ (x21_1 : Int) (xN_1 : Int) (xL_1 : Int) (xJ_1 : Int), v21 = .int .i64 x21_1 ∧ Aside0 (impl_FirstFailure.l0 kq l0_1 (l0_1.length : Int) x21_1 a0_0 l0_1 = some (r1, r2, r3, r4)) ∧ Aside0 (kq ≤ k) ∧ Aside0 (w'.heap[gbB]? = some (.cells #[.int .i64 a0_0, (.slice A0_1 l0_1.length c0_1)] 27 (0, 0))) ∧ Aside0 (w'.heap[gbA]? = some (.cells #[.int .i64 xN_1, .int .i64 xL_1, .int .i64 xJ_1] 50 (0, 0))) ∧ Aside0 (Below w.heap.size w w'))
  case atStart => exact ⟨(0), (0), (0), (0), p7, H', ⟨Nat.le_refl _⟩, ⟨pK BKB.out⟩, ⟨pK BKA.out⟩, ⟨pB⟩⟩
  case round =>
   clear H'
   try clear c3
   try clear hcz7_0
   try clear hcz7_1
   try clear hfz7_0
   try clear hfz7_1
   obtain ⟨x21_1, xN_1, xL_1, xJ_1, rfl, HA, HK1, BKB, BKA, HB⟩ := hrel
   cases gk with
   | zero => exact absurd HA.out (by simp [impl_FirstFailure.l0])
   | succ k1 =>
    have H := HA.out
    clear HA
    simp only [impl_FirstFailure.l0] at H
    by_cases c8 : x21_1 < (l0_1.length : Int)
    ·rw [if_pos c8] at H
     have c8b0 : decide (x21_1 < (l0_1.length : Int)) = true := decide_eq_true c8
     clear c8
     by_cases c9 : 0 ≤ x21_1
     ·rw [if_pos c9] at H
      have c9b0 : decide (0 ≤ x21_1) = true := decide_eq_true c9
      clear c9
      by_cases c10 : x21_1 < (l0_1.length : Int)
      ·rw [if_pos c10] at H
       have c10b0 : decide (x21_1 < (l0_1.length : Int)) = true := decide_eq_true c10
       clear c10
       have H' := Aside0.mk H
       clear H
       have pF : 0 ≤ (x21_1 : Int) := oD
       have qF : x21_1 < (l0_1.length : Int) := oD
       obtain ⟨adF, eF, hxF_0⟩ := Kd.at_int HR0_1.out x21_1 pF qF
       cases eF
       replace hxF_0 := (HB.out.cell (World.block_lt_of_cell? w _ hxF_0)).trans hxF_0
       replace pF := eq_true pF
       replace qF := eq_true qF
       go_wp2_with (first | (refine bE 5 #[.int .i64 0] 3 ?_; intro gbD hg w11 hbox hb; have BKD := Aside0.mk hbox; have GWD := aZ w hg; have GED := aZ w hg; replace HB := aH hb; have NBB_D := aL BKB hg; have NBD_B := aG BKB hg; replace BKB := aB BKB hb; have NBA_D := aL BKA hg; have NBD_A := aG BKA hg; replace BKA := aB BKA hb; clear hb hbox hg; have hnb12 := NBD_B.out; have hnc12 := NBB_D.out; have hnb13 := NBD_A.out; have hnc13 := NBA_D.out; obtain ⟨hcz14_0, hfz14_0⟩ := bc1 BKD.out; have hnb15 := NBB_A.out; have hnc15 := NBA_B.out; obtain ⟨hcz16_0, hcz16_1, hfz16_0, hfz16_1⟩ := bc2 BKB.out))
       go_loopg [28] k1 (fun kq v28 w' => ∃ (x28_2 : Int) (xN_2 : Int) (xL_2 : Int) (xJ_2 : Int), v28 = .int .i64 x28_2 ∧ Aside0 (impl_FirstFailure.l1 kq l0_1 (l0_1.length : Int) x21_1 l0_1 (l0_1.length : Int) x28_2 a0_0 l0_1 (rd l0_1 x21_1) = some (r1, r2, r3, r4)) ∧ Aside0 (kq ≤ k1) ∧ Aside0 (w'.heap[gbB]? = some (.cells #[.int .i64 a0_0, (.slice (some adF) l0_1.length c0_1)] 27 (0, 0))) ∧ Aside0 (w'.heap[gbA]? = some (.cells #[.int .i64 xN_2, .int .i64 xL_2, .int .i64 xJ_2] 50 (0, 0))) ∧ Aside0 (w'.heap[gbD]? = some (.cells #[.int .i64 (rd l0_1 x21_1)] 3 (0, 0))) ∧ Aside0 (Below w.heap.size w w'))
       case atStart => exact ⟨(0), (xN_1), (xL_1), (xJ_1), p7, H', ⟨Nat.le_refl _⟩, ⟨qK BKB.out⟩, ⟨qK BKA.out⟩, ⟨by (with_reducible repeat (first | refine blk_drewN ?_ _ | refine blk_drew ?_ | refine blk_alloc ?_ _)); refine blk_put (cs := #[.int .i64 0]) ?_ 0 _ rfl; (with_reducible repeat (first | refine blk_drewN ?_ _ | refine blk_drew ?_ | refine blk_alloc ?_ _)); exact BKD.out⟩, ⟨pB⟩⟩
       case round =>
        clear H'
        try clear c3
        try clear c8
        try clear c8b0
        try clear c9
        try clear c9b0
        try clear c10
        try clear c10b0
        try clear hcz14_0
        try clear hcz16_0
        try clear hcz16_1
        try clear hcz7_0
        try clear hcz7_1
        try clear hfz14_0
        try clear hfz16_0
        try clear hfz16_1
        try clear hfz7_0
        try clear hfz7_1
        try clear hxF_0
        try clear pF
        try clear qF
        obtain ⟨x28_2, xN_2, xL_2, xJ_2, rfl, HA, HK2, BKB, BKA, BKD, HB⟩ := hrel
        cases gk with
        | zero => exact absurd HA.out (by simp [impl_FirstFailure.l1])
        | succ k2 =>
         have H := HA.out
         clear HA
         simp only [impl_FirstFailure.l1] at H
         by_cases c17 : x28_2 < (l0_1.length : Int)
         ·rw [if_pos c17] at H
          have c17b0 : decide (x28_2 < (l0_1.length : Int)) = true := decide_eq_true c17
          clear c17
          by_cases c18 : 0 ≤ x28_2
          ·rw [if_pos c18] at H
           have c18b0 : decide (0 ≤ x28_2) = true := decide_eq_true c18
           clear c18
           by_cases c19 : x28_2 < (l0_1.length : Int)
           ·rw [if_pos c19] at H
            have c19b0 : decide (x28_2 < (l0_1.length : Int)) = true := decide_eq_true c19
            clear c19
            replace H := bS H
            obtain ⟨tG, A20, H⟩ := H
            have H' := Aside0.mk H
            clear H
            have pM : 0 ≤ (x28_2 : Int) := oD
            have qM : x28_2 < (l0_1.length : Int) := oD
            obtain ⟨adM, eM, hxM_0⟩ := Kd.at_int HR0_1.out x28_2 pM qM
            obtain rfl : adF = adM := (by injection eM)
            replace hxM_0 := (HB.out.cell (World.block_lt_of_cell? w _ hxM_0)).trans hxM_0
            replace pM := eq_true pM
            replace qM := eq_true qM
            have hnb21 := NBD_B.out
            have hnc21 := NBB_D.out
            have hnb22 := NBD_A.out
            have hnc22 := NBA_D.out
            obtain ⟨hcz23_0, hfz23_0⟩ := bc1 BKD.out
            go_wp2_with (first | ((with_reducible refine gate_callee (f := 31) rfl ?_); refine goesL_ (some 35) rfl rfl Try.func31 kr rfl #[.int .i64 (Go.bits .andNot .i64 (rd l0_1 x21_1) (rd l0_1 x28_2))] rfl p5 ?_; (with_reducible refine (impl_ElementsOf.calls k2 (Go.bits .andNot .i64 (rd l0_1 x21_1) (rd l0_1 x28_2)) tG _ A20.out).mono ?_); rintro e w24 ⟨vV, rfl, ho0, hb⟩; refine ⟨_, rfl, ?_⟩; have HOS := Aside0.mk (Kd.R_lower (Kd.R_newB ho0 (g := gbD) (o := .cells #[.int .i64 (rd l0_1 x21_1)] 3 (0, 0)) (pK BKD.out)) (below_size pB)); replace BKB := aB BKB hb; replace BKA := aB BKA hb; replace BKD := aB BKD hb; replace HB := aH hb; (try clear hb); (try clear ho0); obtain ⟨Ao25, co25, eo25⟩ := Kd.R_slice HOS.out; subst eo25))
            go_loopg [37] k2 (fun kq v37 w' => ∃ (x37_3 : Int) (xN_3 : Int) (xL_3 : Int) (xJ_3 : Int), v37 = .int .i64 x37_3 ∧ Aside0 (impl_FirstFailure.l2 kq (rd l0_1 x28_2) l0_1 (l0_1.length : Int) x21_1 l0_1 (l0_1.length : Int) x28_2 tG (tG.length : Int) x37_3 a0_0 l0_1 (rd l0_1 x21_1) = some (r1, r2, r3, r4)) ∧ Aside0 (kq ≤ k2) ∧ Aside0 (Kd.R (Kd.int .i64) 3 w' w.heap.size (fun k_ => k_ ≠ gbD) (.slice Ao25 tG.length co25) tG) ∧ Aside0 (w'.heap[gbB]? = some (.cells #[.int .i64 a0_0, (.slice (some adF) l0_1.length c0_1)] 27 (0, 0))) ∧ Aside0 (w'.heap[gbA]? = some (.cells #[.int .i64 xN_3, .int .i64 xL_3, .int .i64 xJ_3] 50 (0, 0))) ∧ Aside0 (w'.heap[gbD]? = some (.cells #[.int .i64 (rd l0_1 x21_1)] 3 (0, 0))) ∧ Aside0 (Below w.heap.size w w'))
            case atStart => exact ⟨(0), (xN_2), (xL_2), (xJ_2), p7, H', ⟨Nat.le_refl _⟩, ⟨by (with_reducible repeat (first | apply Kd.R_alloc | apply Kd.R_drewN | apply Kd.R_drew)); exact Kd.R_mono HOS.out (fun _ hk => hk.2)⟩, ⟨pK BKB.out⟩, ⟨pK BKA.out⟩, ⟨pK BKD.out⟩, ⟨pB⟩⟩
            case round =>
             clear H'
             try clear c3
             try clear c8
             try clear c8b0
             try clear c9
             try clear c9b0
             try clear c10
             try clear c10b0
             try clear c17
             try clear c17b0
             try clear c18
             try clear c18b0
             try clear c19
             try clear c19b0
             try clear hcz14_0
             try clear hcz16_0
             try clear hcz16_1
             try clear hcz23_0
             try clear hcz7_0
             try clear hcz7_1
             try clear hfz14_0
             try clear hfz16_0
             try clear hfz16_1
             try clear hfz23_0
             try clear hfz7_0
             try clear hfz7_1
             try clear hxF_0
             try clear hxM_0
             try clear pF
             try clear pM
             try clear qF
             try clear qM
             obtain ⟨x37_3, xN_3, xL_3, xJ_3, rfl, HA, HK3, HO_35, BKB, BKA, BKD, HB⟩ := hrel
             cases gk with
             | zero => exact absurd HA.out (by simp [impl_FirstFailure.l2])
             | succ k3 =>
              have H := HA.out
              clear HA
              simp only [impl_FirstFailure.l2] at H
              by_cases c26 : x37_3 < (tG.length : Int)
              ·rw [if_pos c26] at H
               have c26b0 : decide (x37_3 < (tG.length : Int)) = true := decide_eq_true c26
               clear c26
               by_cases c27 : 0 ≤ x37_3
               ·rw [if_pos c27] at H
                have c27b0 : decide (0 ≤ x37_3) = true := decide_eq_true c27
                clear c27
                by_cases c28 : x37_3 < (tG.length : Int)
                ·rw [if_pos c28] at H
                 have c28b0 : decide (x37_3 < (tG.length : Int)) = true := decide_eq_true c28
                 clear c28
                 replace H := bS H
                 obtain ⟨tP, A29, H⟩ := H
                 replace H := bS H
                 obtain ⟨tT, A30, H⟩ := H
                 by_cases c31 : tT = true
                 ·subst c31
                  replace H := iP H
                  have H' := Aside0.mk H
                  clear H
                  have pI : 0 ≤ (x37_3 : Int) := oD
                  have qI : x37_3 < (tG.length : Int) := oD
                  obtain ⟨adI, eI, hxI_0⟩ := Kd.at_int (Kd.R_reads' HO_35.out).2.2 x37_3 pI qI
                  cases eI
                  replace pI := eq_true pI
                  replace qI := eq_true qI
                  go_wp2_with (first | (refine bE 9 #[.int .i64 0] 3 ?_; intro gbE hg w32 hbox hb; replace HO_35 := Aside0.mk (Kd.R_below (Kd.R_elderB (pR HO_35.out) gbE (Nat.le_of_eq hg.symm)) hb); have BKE := Aside0.mk hbox; have GWE := aZ w hg; have GEE := aZ w hg; replace HB := aH hb; have NBB_E := aL BKB hg; have NBE_B := aG BKB hg; replace BKB := aB BKB hb; have NBA_E := aL BKA hg; have NBE_A := aG BKA hg; replace BKA := aB BKA hb; have NBD_E := aL BKD hg; have NBE_D := aG BKD hg; replace BKD := aB BKD hb; clear hb hbox hg; have hnb33 := NBE_B.out; have hnc33 := NBB_E.out; have hnb34 := NBE_A.out; have hnc34 := NBA_E.out; have hnb35 := NBE_D.out; have hnc35 := NBD_E.out; obtain ⟨hcz36_0, hfz36_0⟩ := bc1 BKE.out; have hnb37 := NBD_B.out; have hnc37 := NBB_D.out; have hnb38 := NBD_A.out; have hnc38 := NBA_D.out; obtain ⟨hcz39_0, hfz39_0⟩ := bc1 BKD.out) | ((with_reducible refine gate_callee (f := 31) rfl ?_); refine goesL_ (some 44) rfl rfl Try.func31 kr rfl #[.int .i64 (Go.bits .andNot .i64 (rd l0_1 x28_2) (rd l0_1 x21_1))] rfl p5 ?_; (with_reducible refine (impl_ElementsOf.calls k3 (Go.bits .andNot .i64 (rd l0_1 x28_2) (rd l0_1 x21_1)) tP _ A29.out).mono ?_); rintro e w40 ⟨vU, rfl, ho0, hb⟩; refine ⟨_, rfl, ?_⟩; have HOO := Aside0.mk (Kd.R_lower (Kd.R_newB (Kd.R_newB (Kd.R_new' ho0 (Kd.R_lt (by (with_reducible repeat (first | apply Kd.R_alloc | apply Kd.R_drewN | apply Kd.R_drew)); exact (Kd.R_mono (Kd.R_far (p := ⟨gbE, 0, none⟩) (Kd.R_mono HO_35.out (fun k_ hk => (⟨hk, hk.2⟩ : _ ∧ k_ ≠ gbE))) (fun _ hk => hk.2) (.int .i64 (rd tG x37_3))) (fun _ h_ => h_.1))))) (g := gbD) (o := .cells #[.int .i64 (rd l0_1 x21_1)] 3 (0, 0)) (qK BKD.out)) (g := gbE) (o := .cells #[.int .i64 (rd tG x37_3)] 3 (0, 0)) (by (with_reducible repeat (first | refine blk_drewN ?_ _ | refine blk_drew ?_ | refine blk_alloc ?_ _)); refine blk_put (cs := #[.int .i64 0]) ?_ 0 _ rfl; exact pK BKE.out)) (below_size pB)); replace HO_35 := Aside0.mk (Kd.R_elder' (by (with_reducible repeat (first | apply Kd.R_alloc | apply Kd.R_drewN | apply Kd.R_drew)); exact (Kd.R_mono (Kd.R_far (p := ⟨gbE, 0, none⟩) (Kd.R_mono HO_35.out (fun k_ hk => (⟨hk, hk.2⟩ : _ ∧ k_ ≠ gbE))) (fun _ hk => hk.2) (.int .i64 (rd tG x37_3))) (fun _ h_ => h_.1))) (Kd.R_base ho0) hb); replace BKB := bF BKB.out hb; replace BKA := bF BKA.out hb; replace BKD := bF BKD.out hb; replace BKE := Aside0.mk (blk_below (g := gbE) (o := .cells #[.int .i64 (rd tG x37_3)] 3 (0, 0)) (by (with_reducible repeat (first | refine blk_drewN ?_ _ | refine blk_drew ?_ | refine blk_alloc ?_ _)); refine blk_put (cs := #[.int .i64 0]) ?_ 0 _ rfl; exact pK BKE.out) hb); replace HB := aH hb; (try clear hb); (try clear hk); (try clear ho0); obtain ⟨Ao41, co41, eo41⟩ := Kd.R_slice HOO.out; subst eo41) | ((with_reducible refine gate_callee (f := 60) rfl ?_); refine goesL_ (some 46) rfl rfl Try.func60 kr rfl #[.slice Ao41 tP.length co41, .func (.func 61) #[] #[.pointer (some ⟨gbB, 0, none⟩), .pointer (some ⟨gbD, 0, none⟩), .pointer (some ⟨gbE, 0, none⟩)]] rfl p5 ?_; (with_reducible refine (impl_FirstFailure_any.calls _ _ tP a0_0 _ _ l0_1 (rd l0_1 x21_1) (rd tG x37_3) true _ ?side1 ?side2 ?side3 ?side4 A30.out gbB (by repeat (first | exact BKB.out | (with_reducible refine blk_drewN ?_ _) | (with_reducible refine blk_drew ?_) | (with_reducible refine blk_alloc ?_ _) | exact blk_put BKB.out 0 _ rfl | (with_reducible refine blk_far ?_ NBB_D.out _) | (with_reducible refine blk_far ?_ NBB_E.out _))) gbD (by repeat (first | exact BKD.out | (with_reducible refine blk_drewN ?_ _) | (with_reducible refine blk_drew ?_) | (with_reducible refine blk_alloc ?_ _) | exact blk_put BKD.out 0 _ rfl | (with_reducible refine blk_far ?_ NBD_B.out _) | (with_reducible refine blk_far ?_ NBD_E.out _))) gbE (by repeat (first | exact BKE.out | (with_reducible refine blk_drewN ?_ _) | (with_reducible refine blk_drew ?_) | (with_reducible refine blk_alloc ?_ _) | exact blk_put BKE.out 0 _ rfl | (with_reducible refine blk_far ?_ NBE_B.out _) | (with_reducible refine blk_far ?_ NBE_D.out _)))).mono ?_); (case side1 => repeat (first | exact (Kd.R_reads' HOO.out).2.2 | (with_reducible refine Kd.C_alloc ?_ _) | (with_reducible refine Kd.C_drewN ?_ _) | (with_reducible refine Kd.C_drew ?_))); (case side2 => exact (Kd.R_reads' HOO.out).2.1); (case side3 => exact pC (Kd.C_below HR0_1.out HB.out)); (case side4 => exact HC0_1.out); rintro e w42 ⟨rfl, hb⟩; refine ⟨_, rfl, ?_⟩; replace HO_35 := aR HO_35 hb; replace HOO := aR HOO hb; replace BKB := aB BKB hb; replace BKA := aB BKA hb; replace BKD := aB BKD hb; replace BKE := aB BKE hb; replace HB := aH hb; (try clear hb); (try clear hk)))
                  go_roundg k3
                  case measure => have := HK1.out; have := HK2.out; have := HK3.out; omega
                  case rel => exact ⟨(wrap64 (x37_3 + 1)), (xN_3), (xL_3), (xJ_3), p7, H', ⟨by have := HK1.out; have := HK2.out; have := HK3.out; omega⟩, ⟨by (with_reducible repeat (first | apply Kd.R_alloc | apply Kd.R_drewN | apply Kd.R_drew)); exact Kd.R_mono HO_35.out (fun _ hk => hk.1.1)⟩, ⟨pK BKB.out⟩, ⟨pK BKA.out⟩, ⟨pK BKD.out⟩, ⟨pB⟩⟩
                 ·replace c31 := Bool.eq_false_iff.mpr c31
                  subst c31
                  replace H := iN H
                  simp only [Option.some.injEq, Prod.mk.injEq] at H
                  obtain ⟨rfl, rfl, rfl, rfl⟩ := H
                  have pI : 0 ≤ (x37_3 : Int) := oD
                  have qI : x37_3 < (tG.length : Int) := oD
                  obtain ⟨adI, eI, hxI_0⟩ := Kd.at_int (Kd.R_reads' HO_35.out).2.2 x37_3 pI qI
                  cases eI
                  replace pI := eq_true pI
                  replace qI := eq_true qI
                  go_wp2_with (first | (refine bE 9 #[.int .i64 0] 3 ?_; intro gbE hg w43 hbox hb; replace HO_35 := Aside0.mk (Kd.R_below (Kd.R_elderB (pR HO_35.out) gbE (Nat.le_of_eq hg.symm)) hb); have BKE := Aside0.mk hbox; have GWE := aZ w hg; have GEE := aZ w hg; replace HB := aH hb; have NBB_E := aL BKB hg; have NBE_B := aG BKB hg; replace BKB := aB BKB hb; have NBA_E := aL BKA hg; have NBE_A := aG BKA hg; replace BKA := aB BKA hb; have NBD_E := aL BKD hg; have NBE_D := aG BKD hg; replace BKD := aB BKD hb; clear hb hbox hg; have hnb44 := NBE_B.out; have hnc44 := NBB_E.out; have hnb45 := NBE_A.out; have hnc45 := NBA_E.out; have hnb46 := NBE_D.out; have hnc46 := NBD_E.out; obtain ⟨hcz47_0, hfz47_0⟩ := bc1 BKE.out; have hnb48 := NBD_B.out; have hnc48 := NBB_D.out; have hnb49 := NBD_A.out; have hnc49 := NBA_D.out; obtain ⟨hcz50_0, hfz50_0⟩ := bc1 BKD.out) | ((with_reducible refine gate_callee (f := 31) rfl ?_); refine goesL_ (some 44) rfl rfl Try.func31 kr rfl #[.int .i64 (Go.bits .andNot .i64 (rd l0_1 x28_2) (rd l0_1 x21_1))] rfl p5 ?_; (with_reducible refine (impl_ElementsOf.calls k3 (Go.bits .andNot .i64 (rd l0_1 x28_2) (rd l0_1 x21_1)) tP _ A29.out).mono ?_); rintro e w51 ⟨vU, rfl, ho0, hb⟩; refine ⟨_, rfl, ?_⟩; have HOO := Aside0.mk (Kd.R_lower (Kd.R_newB (Kd.R_newB (Kd.R_new' ho0 (Kd.R_lt (by (with_reducible repeat (first | apply Kd.R_alloc | apply Kd.R_drewN | apply Kd.R_drew)); exact (Kd.R_mono (Kd.R_far (p := ⟨gbE, 0, none⟩) (Kd.R_mono HO_35.out (fun k_ hk => (⟨hk, hk.2⟩ : _ ∧ k_ ≠ gbE))) (fun _ hk => hk.2) (.int .i64 (rd tG x37_3))) (fun _ h_ => h_.1))))) (g := gbD) (o := .cells #[.int .i64 (rd l0_1 x21_1)] 3 (0, 0)) (qK BKD.out)) (g := gbE) (o := .cells #[.int .i64 (rd tG x37_3)] 3 (0, 0)) (by (with_reducible repeat (first | refine blk_drewN ?_ _ | refine blk_drew ?_ | refine blk_alloc ?_ _)); refine blk_put (cs := #[.int .i64 0]) ?_ 0 _ rfl; exact pK BKE.out)) (below_size pB)); replace HO_35 := Aside0.mk (Kd.R_elder' (by (with_reducible repeat (first | apply Kd.R_alloc | apply Kd.R_drewN | apply Kd.R_drew)); exact (Kd.R_mono (Kd.R_far (p := ⟨gbE, 0, none⟩) (Kd.R_mono HO_35.out (fun k_ hk => (⟨hk, hk.2⟩ : _ ∧ k_ ≠ gbE))) (fun _ hk => hk.2) (.int .i64 (rd tG x37_3))) (fun _ h_ => h_.1))) (Kd.R_base ho0) hb); replace BKB := bF BKB.out hb; replace BKA := bF BKA.out hb; replace BKD := bF BKD.out hb; replace BKE := Aside0.mk (blk_below (g := gbE) (o := .cells #[.int .i64 (rd tG x37_3)] 3 (0, 0)) (by (with_reducible repeat (first | refine blk_drewN ?_ _ | refine blk_drew ?_ | refine blk_alloc ?_ _)); refine blk_put (cs := #[.int .i64 0]) ?_ 0 _ rfl; exact pK BKE.out) hb); replace HB := aH hb; (try clear hb); (try clear hk); (try clear ho0); obtain ⟨Ao52, co52, eo52⟩ := Kd.R_slice HOO.out; subst eo52) | ((with_reducible refine gate_callee (f := 60) rfl ?_); refine goesL_ (some 46) rfl rfl Try.func60 kr rfl #[.slice Ao52 tP.length co52, .func (.func 61) #[] #[.pointer (some ⟨gbB, 0, none⟩), .pointer (some ⟨gbD, 0, none⟩), .pointer (some ⟨gbE, 0, none⟩)]] rfl p5 ?_; (with_reducible refine (impl_FirstFailure_any.calls _ _ tP a0_0 _ _ l0_1 (rd l0_1 x21_1) (rd tG x37_3) false _ ?side1 ?side2 ?side3 ?side4 A30.out gbB (by repeat (first | exact BKB.out | (with_reducible refine blk_drewN ?_ _) | (with_reducible refine blk_drew ?_) | (with_reducible refine blk_alloc ?_ _) | exact blk_put BKB.out 0 _ rfl | (with_reducible refine blk_far ?_ NBB_D.out _) | (with_reducible refine blk_far ?_ NBB_E.out _))) gbD (by repeat (first | exact BKD.out | (with_reducible refine blk_drewN ?_ _) | (with_reducible refine blk_drew ?_) | (with_reducible refine blk_alloc ?_ _) | exact blk_put BKD.out 0 _ rfl | (with_reducible refine blk_far ?_ NBD_B.out _) | (with_reducible refine blk_far ?_ NBD_E.out _))) gbE (by repeat (first | exact BKE.out | (with_reducible refine blk_drewN ?_ _) | (with_reducible refine blk_drew ?_) | (with_reducible refine blk_alloc ?_ _) | exact blk_put BKE.out 0 _ rfl | (with_reducible refine blk_far ?_ NBE_B.out _) | (with_reducible refine blk_far ?_ NBE_D.out _)))).mono ?_); (case side1 => repeat (first | exact (Kd.R_reads' HOO.out).2.2 | (with_reducible refine Kd.C_alloc ?_ _) | (with_reducible refine Kd.C_drewN ?_ _) | (with_reducible refine Kd.C_drew ?_))); (case side2 => exact (Kd.R_reads' HOO.out).2.1); (case side3 => exact pC (Kd.C_below HR0_1.out HB.out)); (case side4 => exact HC0_1.out); rintro e w53 ⟨rfl, hb⟩; refine ⟨_, rfl, ?_⟩; replace HO_35 := aR HO_35 hb; replace HOO := aR HOO hb; replace BKB := aB BKB hb; replace BKA := aB BKA hb; replace BKD := aB BKD hb; replace BKE := aB BKE hb; replace HB := aH hb; (try clear hb); (try clear hk); obtain ⟨hcz54_0, hfz54_0⟩ := bc1 BKD.out; obtain ⟨hcz55_0, hfz55_0⟩ := bc1 BKE.out; have hnb56 := NBA_B.out; have hnc56 := NBB_A.out; have hcz57_0 : w53.cell? ⟨gbA, 0, none⟩ = some (.int .i64 xN_3) := (blk_cell BKA.out 0).trans rfl; have hcz57_1 : w53.cell? ⟨gbA, 1, none⟩ = some (.int .i64 xL_3) := (blk_cell BKA.out 1).trans rfl; have hcz57_2 : w53.cell? ⟨gbA, 2, none⟩ = some (.int .i64 xJ_3) := (blk_cell BKA.out 2).trans rfl; have hfz57_0 := blk_frozen BKA.out 0; have hfz57_1 := blk_frozen BKA.out 1; have hfz57_2 := blk_frozen BKA.out 2))
                  refine bodyPost_ret (results_ct rfl _ _ gbA 50 #[.int .i64 (rd l0_1 x21_1), .int .i64 (rd l0_1 x28_2), .int .i64 (rd tG x37_3)] (0, 0) _ rfl (by (with_reducible repeat (first | refine blk_drewN ?_ _ | refine blk_drew ?_ | refine blk_alloc ?_ _)); refine blk_put (cs := #[.int .i64 (rd l0_1 x21_1), .int .i64 (rd l0_1 x28_2), .int .i64 xJ_3]) ?_ 2 _ rfl; (with_reducible repeat (first | refine blk_drewN ?_ _ | refine blk_drew ?_ | refine blk_alloc ?_ _)); refine blk_put (cs := #[.int .i64 (rd l0_1 x21_1), .int .i64 xL_3, .int .i64 xJ_3]) ?_ 1 _ rfl; (with_reducible repeat (first | refine blk_drewN ?_ _ | refine blk_drew ?_ | refine blk_alloc ?_ _)); refine blk_put (cs := #[.int .i64 xN_3, .int .i64 xL_3, .int .i64 xJ_3]) ?_ 0 _ rfl; exact pK BKA.out) Try.underlying50 rfl kr) rfl ?_
                  exact ⟨p8, pB⟩
                ·rw [if_neg c28] at H
                 exact absurd H (by simp)
               ·rw [if_neg c27] at H
                exact absurd H (by simp)
              ·rw [if_neg c26] at H
               have c26b0 : decide (x37_3 < (tG.length : Int)) = false := decide_eq_false c26
               clear c26
               have H' := Aside0.mk H
               clear H
               go_wp2
               go_roundg k3
               case measure => have := HK1.out; have := HK2.out; have := HK3.out; omega
               case rel => exact ⟨(wrap64 (x28_2 + 1)), (xN_3), (xL_3), (xJ_3), p7, H', ⟨by have := HK1.out; have := HK2.out; have := HK3.out; omega⟩, ⟨pK BKB.out⟩, ⟨pK BKA.out⟩, ⟨pK BKD.out⟩, ⟨pB⟩⟩
           ·rw [if_neg c19] at H
            exact absurd H (by simp)
          ·rw [if_neg c18] at H
           exact absurd H (by simp)
         ·rw [if_neg c17] at H
          have c17b0 : decide (x28_2 < (l0_1.length : Int)) = false := decide_eq_false c17
          clear c17
          have H' := Aside0.mk H
          clear H
          go_wp2
          go_roundg k2
          case measure => have := HK1.out; have := HK2.out; omega
          case rel => exact ⟨(wrap64 (x21_1 + 1)), (xN_2), (xL_2), (xJ_2), p7, H', ⟨by have := HK1.out; have := HK2.out; omega⟩, ⟨pK BKB.out⟩, ⟨pK BKA.out⟩, ⟨pB⟩⟩
      ·rw [if_neg c10] at H
       exact absurd H (by simp)
     ·rw [if_neg c9] at H
      exact absurd H (by simp)
    ·rw [if_neg c8] at H
     have c8b0 : decide (x21_1 < (l0_1.length : Int)) = false := decide_eq_false c8
     clear c8
     simp only [Option.some.injEq, Prod.mk.injEq] at H
     obtain ⟨rfl, rfl, rfl, rfl⟩ := H
     have hnb58 := NBA_B.out
     have hnc58 := NBB_A.out
     have hcz59_0 : wr.cell? ⟨gbA, 0, none⟩ = some (.int .i64 xN_1) := (blk_cell BKA.out 0).trans rfl
     have hcz59_1 : wr.cell? ⟨gbA, 1, none⟩ = some (.int .i64 xL_1) := (blk_cell BKA.out 1).trans rfl
     have hcz59_2 : wr.cell? ⟨gbA, 2, none⟩ = some (.int .i64 xJ_1) := (blk_cell BKA.out 2).trans rfl
     have hfz59_0 := blk_frozen BKA.out 0
     have hfz59_1 := blk_frozen BKA.out 1
     have hfz59_2 := blk_frozen BKA.out 2
     go_wp2
     refine bodyPost_ret (results_ct rfl _ _ gbA 50 #[.int .i64 0, .int .i64 0, .int .i64 0] (0, 0) _ rfl (by (with_reducible repeat (first | refine blk_drewN ?_ _ | refine blk_drew ?_ | refine blk_alloc ?_ _)); refine blk_put (cs := #[.int .i64 0, .int .i64 0, .int .i64 xJ_1]) ?_ 2 _ rfl; (with_reducible repeat (first | refine blk_drewN ?_ _ | refine blk_drew ?_ | refine blk_alloc ?_ _)); refine blk_put (cs := #[.int .i64 0, .int .i64 xL_1, .int .i64 xJ_1]) ?_ 1 _ rfl; (with_reducible repeat (first | refine blk_drewN ?_ _ | refine blk_drew ?_ | refine blk_alloc ?_ _)); refine blk_put (cs := #[.int .i64 xN_1, .int .i64 xL_1, .int .i64 xJ_1]) ?_ 0 _ rfl; exact pK BKA.out) Try.underlying50 rfl kr) rfl ?_
     exact ⟨p8, pB⟩
 ·replace c3 := Bool.eq_false_iff.mpr c3
  subst c3
  replace H := iN H
  simp only [Option.some.injEq, Prod.mk.injEq] at H
  obtain ⟨rfl, rfl, rfl, rfl⟩ := H
  go_enter Try.func45, Try.ntmps45
  go_wp2_with (first | (refine bE 1 #[.int .i64 a0_0, .slice A0_1 l0_1.length c0_1] 27 ?_; intro gbB hg w60 hbox hb; have BKB := Aside0.mk hbox; have GWB := aZ w hg; have GEB := aZ w hg; replace HB := aH hb; clear hb hbox hg) | (refine bE 2 #[.int .i64 0, .int .i64 0, .int .i64 0] 50 ?_; intro gbA hg w61 hbox hb; have BKA := Aside0.mk hbox; have GWA := aZ w hg; have GEA := aZ w hg; replace HB := aH hb; have NBB_A := aL BKB hg; have NBA_B := aG BKB hg; replace BKB := aB BKB hb; clear hb hbox hg; have hnb62 := NBB_A.out; have hnc62 := NBA_B.out; obtain ⟨hcz63_0, hcz63_1, hfz63_0, hfz63_1⟩ := bc2 BKB.out) | ((with_reducible refine gate_callee (f := 46) rfl ?_); refine goesL_ (some 15) rfl rfl Try.func46 kr rfl #[.int .i64 a0_0, .slice A0_1 l0_1.length c0_1] rfl p5 ?_; (with_reducible refine (impl_IsFamily.calls k a0_0 _ _ l0_1 false _ ?side1 ?side2 A2.out).mono ?_); (case side1 => exact pC (Kd.C_below HR0_1.out HB.out)); (case side2 => exact HC0_1.out); rintro e w' ⟨rfl, ⟨nd, rfl⟩⟩; refine ⟨_, rfl, ?_⟩; (try (rw [drewN_self w61]; generalize hq_ : World.drewN w61 _ = w61; have n0_ : Aside0 (w61.heap[gbB]? = some (.cells #[.int .i64 a0_0, .slice A0_1 l0_1.length c0_1] 27 (0, 0))) := ⟨by rw [← hq_]; exact (pK BKB.out)⟩; have n1_ : Aside0 (w61.heap[gbA]? = some (.cells #[.int .i64 0, .int .i64 0, .int .i64 0] 50 (0, 0))) := ⟨by rw [← hq_]; exact (pK BKA.out)⟩; have n2_ : Aside0 (Below w.heap.size w w61) := ⟨by rw [← hq_]; exact pB⟩; clear BKB BKA HB hq_; have BKB := n0_; have BKA := n1_; have HB := n2_; clear n0_ n1_ n2_)); have hcz64_0 : w61.cell? ⟨gbA, 0, none⟩ = some (.int .i64 0) := (blk_cell BKA.out 0).trans rfl; have hcz64_1 : w61.cell? ⟨gbA, 1, none⟩ = some (.int .i64 0) := (blk_cell BKA.out 1).trans rfl; have hcz64_2 : w61.cell? ⟨gbA, 2, none⟩ = some (.int .i64 0) := (blk_cell BKA.out 2).trans rfl; have hfz64_0 := blk_frozen BKA.out 0; have hfz64_1 := blk_frozen BKA.out 1; have hfz64_2 := blk_frozen BKA.out 2))
  refine bodyPost_ret (results_ct rfl _ _ gbA 50 #[.int .i64 0, .int .i64 0, .int .i64 0] (0, 0) _ rfl (by (with_reducible repeat (first | refine blk_drewN ?_ _ | refine blk_drew ?_ | refine blk_alloc ?_ _)); refine blk_put (cs := #[.int .i64 0, .int .i64 0, .int .i64 0]) ?_ 2 _ rfl; (with_reducible repeat (first | refine blk_drewN ?_ _ | refine blk_drew ?_ | refine blk_alloc ?_ _)); refine blk_put (cs := #[.int .i64 0, .int .i64 0, .int .i64 0]) ?_ 1 _ rfl; (with_reducible repeat (first | refine blk_drewN ?_ _ | refine blk_drew ?_ | refine blk_alloc ?_ _)); refine blk_put (cs := #[.int .i64 0, .int .i64 0, .int .i64 0]) ?_ 0 _ rfl; exact pK BKA.out) Try.underlying50 rfl kr) rfl ?_
  exact ⟨p8, pB⟩
def impl_IsMatroid.f (k : Nat) (a0_0 : Int) (l0_1 : List Int) : Option (Bool) := (impl_FirstFailure.f k a0_0 l0_1).bind fun btA => ((impl_IsFamily.f k a0_0 l0_1).bind fun tB => (if tB = true then (if (l0_1.length : Int) > 0 then (some (!btA.2.2.2)) else (some false)) else (some false)))
set_option maxHeartbeats 8000000 in
set_option maxRecDepth 100000 in
theorem impl_IsMatroid.calls (k : Nat) (a0_0 : Int) (A0_1 : Option Addr) (c0_1 : Nat) (l0_1 : List Int) (r : Bool) (w : World) (hr0_1 : Kd.C (Kd.int .i64) w A0_1 l0_1.length l0_1) (hc0_1 : l0_1.length ≤ c0_1) (h : impl_IsMatroid.f k a0_0 l0_1 = some r) :
  Calls Try.prog 30 #[.agg #[.int .i64 a0_0, .slice A0_1 l0_1.length c0_1]] w fun e w' => e = .returned (.bool r) ∧ Below w.heap.size w w' := by
 have hu27 := Try.underlying27
 have hu50 := Try.underlying50
 have HR0_1 := Aside0.mk hr0_1
 have HC0_1 := Aside0.mk hc0_1
 clear hr0_1 hc0_1
 have HB := Aside0.mk (Below.refl w.heap.size w)
 have H : ((impl_FirstFailure.f k a0_0 l0_1).bind fun btD => ((impl_IsFamily.f k a0_0 l0_1).bind fun tE => (if tE = true then (if (l0_1.length : Int) > 0 then (some (!btD.2.2.2)) else (some false)) else (some false)))) = some r := h
 clear h
 replace H := Option.bind_eq_some_iff.mp H
 obtain ⟨⟨tD, tG, tI, tF⟩, A20, H⟩ := H
 replace H : ((impl_IsFamily.f k a0_0 l0_1).bind fun tE => (if tE = true then (if (l0_1.length : Int) > 0 then (some (!tF)) else (some false)) else (some false))) = some r := H
 have A2 := Aside0.mk A20
 clear A20
 replace H := bS H
 obtain ⟨tE, A3, H⟩ := H
 by_cases c4 : tE = true
 ·subst c4
  replace H := iP H
  by_cases c5 : (l0_1.length : Int) > 0
  ·rw [if_pos c5] at H
   have c5b0 : decide (0 < (l0_1.length : Int)) = true := decide_eq_true c5
   have c5b1 : decide (0 < l0_1.length) = true := decide_eq_true (by omega)
   clear c5
   obtain rfl := Option.some.inj H
   go_enter Try.func30, Try.ntmps30
   go_wp2_with (first | ((with_reducible refine gate_dst (N := 1) rfl ?_); (try (refine gate_guard (by rfl) ?_; dsimp only)); refine box_event ?hg (N := 1) ?hd (cs := #[.int .i64 a0_0, .slice A0_1 l0_1.length c0_1]) (t := 27) ?hr ?_; (case hd => rfl); (case hg => rfl); (case hr => first | (go_simp; done) | (go_simp; rfl)); intro gbB hg w6 hbox hb; have BKB := Aside0.mk hbox; have GWB := aZ w hg; have GEB := aZ w hg; replace HB := aH hb; clear hb hbox hg; obtain ⟨hcz7_0, hcz7_1, hfz7_0, hfz7_1⟩ := bc2 BKB.out) | ((with_reducible refine gate_callee (f := 45) rfl ?_); refine goesL_ (some 7) rfl rfl Try.func45 kr rfl #[.agg #[.int .i64 a0_0, .slice A0_1 l0_1.length c0_1]] rfl p5 ?_; (with_reducible refine (impl_FirstFailure.calls k a0_0 _ _ l0_1 tD tG tI tF _ ?side1 ?side2 A2.out).mono ?_); (case side1 => exact pC (Kd.C_below HR0_1.out HB.out)); (case side2 => exact HC0_1.out); rintro e w8 ⟨rfl, hb⟩; refine ⟨_, rfl, ?_⟩; replace BKB := aB BKB hb; replace HB := aH hb; (try clear hb)) | ((with_reducible refine gate_dst (N := 3) rfl ?_); (try (refine gate_guard (by rfl) ?_; dsimp only)); refine box_event ?hg (N := 3) ?hd (cs := #[.int .i64 0, .int .i64 0, .int .i64 0]) (t := 50) ?hr ?_; (case hd => rfl); (case hg => rfl); (case hr => first | (go_simp; done) | (go_simp; rfl)); intro gbA hg w9 hbox hb; have BKA := Aside0.mk hbox; have GWA := aZ w hg; have GEA := aZ w hg; replace HB := aH hb; have NBB_A := aL BKB hg; have NBA_B := aG BKB hg; replace BKB := aB BKB hb; clear hb hbox hg; have hnb10 := NBA_B.out; have hnc10 := NBB_A.out; have hcz11_0 : w9.cell? ⟨gbA, 0, none⟩ = some (.int .i64 0) := (blk_cell BKA.out 0).trans rfl; have hcz11_1 : w9.cell? ⟨gbA, 1, none⟩ = some (.int .i64 0) := (blk_cell BKA.out 1).trans rfl; have hcz11_2 : w9.cell? ⟨gbA, 2, none⟩ = some (.int .i64 0) := (blk_cell BKA.out 2).trans rfl; have hfz11_0 := blk_frozen BKA.out 0; have hfz11_1 := blk_frozen BKA.out 1; have hfz11_2 := blk_frozen BKA.out 2; obtain ⟨hcz12_0, hcz12_1, hfz12_0, hfz12_1⟩ := bc2 BKB.out) | ((with_reducible refine gate_callee (f := 46) rfl ?_); refine goesL_ (some 14) rfl rfl Try.func46 kr rfl #[.int .i64 a0_0, .slice A0_1 l0_1.length c0_1] rfl p5 ?_; (with_reducible refine (impl_IsFamily.calls k a0_0 _ _ l0_1 true _ ?side1 ?side2 A3.out).mono ?_); (case side1 => exact Kd.C_below HR0_1.out pB); (case side2 => exact HC0_1.out); rintro e w' ⟨rfl, ⟨nd, rfl⟩⟩; refine ⟨_, rfl, ?_⟩))
   go_ret
   exact ⟨p8, pB⟩
  ·rw [if_neg c5] at H
   have c5b0 : decide (0 < (l0_1.length : Int)) = false := decide_eq_false c5
   have c5b1 : decide (0 < l0_1.length) = false := decide_eq_false (by omega)
   clear c5
   obtain rfl := Option.some.inj H
   go_enter Try.func30, Try.ntmps30
   go_wp2_with (first | ((with_reducible refine gate_dst (N := 1) rfl ?_); (try (refine gate_guard (by rfl) ?_; dsimp only)); refine box_event ?hg (N := 1) ?hd (cs := #[.int .i64 a0_0, .slice A0_1 l0_1.length c0_1]) (t := 27) ?hr ?_; (case hd => rfl); (case hg => rfl); (case hr => first | (go_simp; done) | (go_simp; rfl)); intro gbB hg w13 hbox hb; have BKB := Aside0.mk hbox; have GWB := aZ w hg; have GEB := aZ w hg; replace HB := aH hb; clear hb hbox hg; obtain ⟨hcz14_0, hcz14_1, hfz14_0, hfz14_1⟩ := bc2 BKB.out) | ((with_reducible refine gate_callee (f := 45) rfl ?_); refine goesL_ (some 7) rfl rfl Try.func45 kr rfl #[.agg #[.int .i64 a0_0, .slice A0_1 l0_1.length c0_1]] rfl p5 ?_; (with_reducible refine (impl_FirstFailure.calls k a0_0 _ _ l0_1 tD tG tI tF _ ?side1 ?side2 A2.out).mono ?_); (case side1 => exact pC (Kd.C_below HR0_1.out HB.out)); (case side2 => exact HC0_1.out); rintro e w15 ⟨rfl, hb⟩; refine ⟨_, rfl, ?_⟩; replace BKB := aB BKB hb; replace HB := aH hb; (try clear hb)) | ((with_reducible refine gate_dst (N := 3) rfl ?_); (try (refine gate_guard (by rfl) ?_; dsimp only)); refine box_event ?hg (N := 3) ?hd (cs := #[.int .i64 0, .int .i64 0, .int .i64 0]) (t := 50) ?hr ?_; (case hd => rfl); (case hg => rfl); (case hr => first | (go_simp; done) | (go_simp; rfl)); intro gbA hg w16 hbox hb; have BKA := Aside0.mk hbox; have GWA := aZ w hg; have GEA := aZ w hg; replace HB := aH hb; have NBB_A := aL BKB hg; have NBA_B := aG BKB hg; replace BKB := aB BKB hb; clear hb hbox hg; have hnb17 := NBA_B.out; have hnc17 := NBB_A.out; have hcz18_0 : w16.cell? ⟨gbA, 0, none⟩ = some (.int .i64 0) := (blk_cell BKA.out 0).trans rfl; have hcz18_1 : w16.cell? ⟨gbA, 1, none⟩ = some (.int .i64 0) := (blk_cell BKA.out 1).trans rfl; have hcz18_2 : w16.cell? ⟨gbA, 2, none⟩ = some (.int .i64 0) := (blk_cell BKA.out 2).trans rfl; have hfz18_0 := blk_frozen BKA.out 0; have hfz18_1 := blk_frozen BKA.out 1; have hfz18_2 := blk_frozen BKA.out 2; obtain ⟨hcz19_0, hcz19_1, hfz19_0, hfz19_1⟩ := bc2 BKB.out) | ((with_reducible refine gate_callee (f := 46) rfl ?_); refine goesL_ (some 14) rfl rfl Try.func46 kr rfl #[.int .i64 a0_0, .slice A0_1 l0_1.length c0_1] rfl p5 ?_; (with_reducible refine (impl_IsFamily.calls k a0_0 _ _ l0_1 true _ ?side1 ?side2 A3.out).mono ?_); (case side1 => exact Kd.C_below HR0_1.out pB); (case side2 => exact HC0_1.out); rintro e w' ⟨rfl, ⟨nd, rfl⟩⟩; refine ⟨_, rfl, ?_⟩))
   go_ret
   exact ⟨p8, pB⟩
 ·replace c4 := Bool.eq_false_iff.mpr c4
  subst c4
  replace H := iN H
  obtain rfl := Option.some.inj H
  go_enter Try.func30, Try.ntmps30
  go_wp2_with (first | ((with_reducible refine gate_dst (N := 1) rfl ?_); (try (refine gate_guard (by rfl) ?_; dsimp only)); refine box_event ?hg (N := 1) ?hd (cs := #[.int .i64 a0_0, .slice A0_1 l0_1.length c0_1]) (t := 27) ?hr ?_; (case hd => rfl); (case hg => rfl); (case hr => first | (go_simp; done) | (go_simp; rfl)); intro gbB hg w20 hbox hb; have BKB := Aside0.mk hbox; have GWB := aZ w hg; have GEB := aZ w hg; replace HB := aH hb; clear hb hbox hg; obtain ⟨hcz21_0, hcz21_1, hfz21_0, hfz21_1⟩ := bc2 BKB.out) | ((with_reducible refine gate_callee (f := 45) rfl ?_); refine goesL_ (some 7) rfl rfl Try.func45 kr rfl #[.agg #[.int .i64 a0_0, .slice A0_1 l0_1.length c0_1]] rfl p5 ?_; (with_reducible refine (impl_FirstFailure.calls k a0_0 _ _ l0_1 tD tG tI tF _ ?side1 ?side2 A2.out).mono ?_); (case side1 => exact pC (Kd.C_below HR0_1.out HB.out)); (case side2 => exact HC0_1.out); rintro e w22 ⟨rfl, hb⟩; refine ⟨_, rfl, ?_⟩; replace BKB := aB BKB hb; replace HB := aH hb; (try clear hb)) | ((with_reducible refine gate_dst (N := 3) rfl ?_); (try (refine gate_guard (by rfl) ?_; dsimp only)); refine box_event ?hg (N := 3) ?hd (cs := #[.int .i64 0, .int .i64 0, .int .i64 0]) (t := 50) ?hr ?_; (case hd => rfl); (case hg => rfl); (case hr => first | (go_simp; done) | (go_simp; rfl)); intro gbA hg w23 hbox hb; have BKA := Aside0.mk hbox; have GWA := aZ w hg; have GEA := aZ w hg; replace HB := aH hb; have NBB_A := aL BKB hg; have NBA_B := aG BKB hg; replace BKB := aB BKB hb; clear hb hbox hg; have hnb24 := NBA_B.out; have hnc24 := NBB_A.out; have hcz25_0 : w23.cell? ⟨gbA, 0, none⟩ = some (.int .i64 0) := (blk_cell BKA.out 0).trans rfl; have hcz25_1 : w23.cell? ⟨gbA, 1, none⟩ = some (.int .i64 0) := (blk_cell BKA.out 1).trans rfl; have hcz25_2 : w23.cell? ⟨gbA, 2, none⟩ = some (.int .i64 0) := (blk_cell BKA.out 2).trans rfl; have hfz25_0 := blk_frozen BKA.out 0; have hfz25_1 := blk_frozen BKA.out 1; have hfz25_2 := blk_frozen BKA.out 2; obtain ⟨hcz26_0, hcz26_1, hfz26_0, hfz26_1⟩ := bc2 BKB.out) | ((with_reducible refine gate_callee (f := 46) rfl ?_); refine goesL_ (some 14) rfl rfl Try.func46 kr rfl #[.int .i64 a0_0, .slice A0_1 l0_1.length c0_1] rfl p5 ?_; (with_reducible refine (impl_IsFamily.calls k a0_0 _ _ l0_1 false _ ?side1 ?side2 A3.out).mono ?_); (case side1 => exact Kd.C_below HR0_1.out pB); (case side2 => exact HC0_1.out); rintro e w' ⟨rfl, ⟨nd, rfl⟩⟩; refine ⟨_, rfl, ?_⟩))
  go_ret
  exact ⟨p8, pB⟩
def impl_areSets.l0 : Nat → List Int → Int → Int → Option (Bool)
 | 0, _, _, _ => none
 | k + 1, x5, x6, x7 => if x7 < x6 then (if 0 ≤ x7 then (if x7 < (x5.length : Int) then ((impl_isAny.f (rd x5 x7)).bind fun tA => (if tA = true then (impl_areSets.l0 k x5 x6 (wrap64 (x7 + 1))) else (some false))) else (none)) else (none)) else (some true)
def impl_areSets.f (k : Nat) (l0 : List Int) : Option (Bool) := impl_areSets.l0 k l0 (l0.length : Int) 0
set_option maxHeartbeats 8000000 in
set_option maxRecDepth 100000 in
theorem impl_areSets.calls (k : Nat) (A0 : Option Addr) (c0 : Nat) (l0 : List Int) (r : Bool) (w : World) (hr0 : Kd.C (Kd.int .i64) w A0 l0.length l0) (hc0 : l0.length ≤ c0) (h : impl_areSets.f k l0 = some r) :
  Calls Try.prog 80 #[.slice A0 l0.length c0] w fun e w' => e = .returned (.bool r) ∧ Drawn0 w w' := by
 have HR0 := Aside0.mk hr0
 have HC0 := Aside0.mk hc0
 clear hr0 hc0
 have H : (impl_areSets.l0 k l0 (l0.length : Int) 0) = some r := h
 clear h
 have H' := Aside0.mk H
 clear H
 go_enter Try.func80, Try.ntmps80
 go_wp2
 go_loopg [7] k (fun kq v7 w' => ∃ (x7_1 : Int), v7 = .int .i64 x7_1 ∧ Aside0 (impl_areSets.l0 kq l0 (l0.length : Int) x7_1 = some r) ∧ Aside0 (kq ≤ k) ∧ Drawn0 w w')
 case atStart => exact ⟨(0), p7, H', ⟨Nat.le_refl _⟩, by repeat (first | exact Drawn0.refl _ | apply Drawn0.step)⟩
 case round =>
  clear H'
  obtain ⟨x7_1, rfl, HA, HK1, ⟨m1, rfl⟩⟩ := hrel
  cases gk with
  | zero => exact absurd HA.out (by simp [impl_areSets.l0])
  | succ k1 =>
   have H := HA.out
   clear HA
   simp only [impl_areSets.l0] at H
   by_cases c2 : x7_1 < (l0.length : Int)
   ·rw [if_pos c2] at H
    have c2b0 : decide (x7_1 < (l0.length : Int)) = true := decide_eq_true c2
    clear c2
    by_cases c3 : 0 ≤ x7_1
    ·rw [if_pos c3] at H
     have c3b0 : decide (0 ≤ x7_1) = true := decide_eq_true c3
     clear c3
     by_cases c4 : x7_1 < (l0.length : Int)
     ·rw [if_pos c4] at H
      have c4b0 : decide (x7_1 < (l0.length : Int)) = true := decide_eq_true c4
      clear c4
      replace H := bS H
      obtain ⟨tB, A5, H⟩ := H
      by_cases c6 : tB = true
      ·subst c6
       replace H := iP H
       have H' := Aside0.mk H
       clear H
       have pA : 0 ≤ (x7_1 : Int) := oD
       have qA : x7_1 < (l0.length : Int) := oD
       obtain ⟨adA, eA, hxA_0⟩ := Kd.at_int HR0.out x7_1 pA qA
       cases eA
       replace pA := eq_true pA
       replace qA := eq_true qA
       go_wp2_with (first | ((with_reducible refine gate_callee (f := 47) rfl ?_); refine goesL_ (some 12) rfl rfl Try.func47 kr rfl #[.int .i64 (rd l0 x7_1)] rfl p5 ?_; (with_reducible refine (impl_isAny.calls (rd l0 x7_1) true _ A5.out).mono ?_); rintro e w' ⟨rfl, ⟨nd, rfl⟩⟩; refine ⟨_, rfl, ?_⟩))
       go_roundg k1
       case measure => have := HK1.out; omega
       case rel => exact ⟨(wrap64 (x7_1 + 1)), p7, H', ⟨by have := HK1.out; omega⟩, by repeat (first | exact Drawn0.refl _ | apply Drawn0.step)⟩
      ·replace c6 := Bool.eq_false_iff.mpr c6
       subst c6
       replace H := iN H
       obtain rfl := Option.some.inj H
       have pA : 0 ≤ (x7_1 : Int) := oD
       have qA : x7_1 < (l0.length : Int) := oD
       obtain ⟨adA, eA, hxA_0⟩ := Kd.at_int HR0.out x7_1 pA qA
       cases eA
       replace pA := eq_true pA
       replace qA := eq_true qA
       go_wp2_with (first | ((with_reducible refine gate_callee (f := 47) rfl ?_); refine goesL_ (some 12) rfl rfl Try.func47 kr rfl #[.int .i64 (rd l0 x7_1)] rfl p5 ?_; (with_reducible refine (impl_isAny.calls (rd l0 x7_1) false _ A5.out).mono ?_); rintro e w' ⟨rfl, ⟨nd, rfl⟩⟩; refine ⟨_, rfl, ?_⟩))
       go_ret
       exact ⟨p7, by repeat (first | exact Drawn0.refl _ | apply Drawn0.step)⟩
     ·rw [if_neg c4] at H
      exact absurd H (by simp)
    ·rw [if_neg c3] at H
     exact absurd H (by simp)
   ·rw [if_neg c2] at H
    have c2b0 : decide (x7_1 < (l0.length : Int)) = false := decide_eq_false c2
    clear c2
    obtain rfl := Option.some.inj H
    go_wp2
    go_ret
    exact ⟨p7, by repeat (first | exact Drawn0.refl _ | apply Drawn0.step)⟩
def impl_SortSets.f (l0 : List Int) : Option (List Int) := if l0.length < 17592186044416 then some (sortSets l0) else none
set_option maxHeartbeats 8000000 in
set_option maxRecDepth 100000 in
theorem impl_SortSets.calls (A0 : Option Addr) (c0 : Nat) (l0 : List Int) (r : List Int) (w : World) (hr0 : Kd.C (Kd.int .i64) w A0 l0.length l0) (hc0 : l0.length ≤ c0) (h : impl_SortSets.f l0 = some r) :
  Calls Try.prog 81 #[.slice A0 l0.length c0] w fun e w' => ∃ v0_ : Value, e = .returned (v0_) ∧ Kd.R (Kd.int .i64) 3 w' w.heap.size (fun _ => True) v0_ r ∧ Below w.heap.size w w' := by
 have HR0 := Aside0.mk hr0
 have HC0 := Aside0.mk hc0
 clear hr0 hc0
 have HB := Aside0.mk (Below.refl w.heap.size w)
 unfold impl_SortSets.f at h
 by_cases c6 : l0.length < 17592186044416
 ·rw [if_pos c6] at h
  obtain rfl := Option.some.inj h
  clear h
  have LM := Aside0.mk c6
  clear c6
  go_enter Try.func81, Try.ntmps81
  go_wp2_with (first | ((with_reducible refine gate_dst (N := 4) rfl ?_); refine Kd.R_lit (Kd.int .i64) _ 3 ?hg (N := 4) ?hd (xs := ([] : List Int)) (inner := []) (ok := fun _ => True) (okp := fun _ => True) ?hr ?hp (fun _ hk => hk) trivial (Below.refl _ _) (Nat.le_refl _) (by simp) ?_; (case hd => rfl); (case hg => rfl); (case hr => first | (go_simp; done) | (go_simp; rfl)); (case hp => exact (Reps.none _ _)); intro vA w7 ho8 hb hg_ hnew_; clear hg_ hnew_; have HO1 := Aside0.mk (Kd.R_lower ho8 (below_size HB.out)); replace HB := Aside0.mk (below_step HB.out hb); clear hb ho8) | ((with_reducible refine gate_builtin (b := .append) (xs := #[.tmp 4, .tmp 5]) rfl ?_); at_builtin; refine Kd.R_append_rows (Kd.int .i64) (w0 := w) w.heap.size rfl (.tmp 4) (.tmp 5) 22 3 (.int .i64 0) 8 rfl Try.underlying22 info3 rfl (by decide) (by omega) vA [] l0 _ _ _ (fun _ => True) (fun _ => False) rfl rfl ?aO ?aR (fun _ _ h => h) (fun _ h => h.elim) ?aF ?aB ?aS ?aL ?_; (case aR => exact (Kd.C_below HR0.out HB.out)); (case aB => exact HB.out); (case aF => exact (fun _ _ => trivial)); (case aO => exact HO1.out); (case aS => exact (below_size HB.out)); (case aL => have := LM.out; simp; omega); intro vB w9 ho hb hg hat; have n0_ := Aside0.mk (hb); have n1_ := Aside0.mk (show Kd.R (Kd.int .i64) 3 w9 w.heap.size (fun _ => True) vB l0 from ho); clear HB; clear HO1; have HB := n0_; have HO2 := n1_; clear n0_ n1_; clear ho hb hg hat) | (go_at_call 88; refine (sort_own HO2.out (by have := LM.out; omega)).mono ?_; rintro e w' ⟨rfl, ho, hg⟩; have n0_ := Aside0.mk ho; have n1_ := Aside0.mk (pw_below_grown HB.out _ HB.out.size hg (fun k e_ => Kd.R_base HO2.out k e_)); clear HB; clear HO2; have HO3 := n0_; have HB := n1_; clear n0_ n1_; clear ho hg) | (go_at_call 89; refine (compact_own HO3.out).mono ?_; rintro e w' ⟨v', rfl, ho, hg⟩; have n0_ := Aside0.mk ho; have n1_ := Aside0.mk (pw_below_grown HB.out _ HB.out.size hg (fun k e_ => Kd.R_base HO3.out k e_)); clear HB; clear HO3; have HO4 := n0_; have HB := n1_; clear n0_ n1_; clear ho hg))
  go_ret
  exact ⟨_, rfl, HO4.out, HB.out⟩
 ·rw [if_neg c6] at h
  cases h
def impl_IsSubset.f (a0 : Int) (a1 : Int) : Option (Bool) := (impl_isAny.f a0).bind fun tA => (if tA = true then ((impl_isAny.f a1).bind fun tB => (if tB = true then (some ((Go.bits .andNot .i64 a0 a1) == 0)) else (some false))) else (some false))
set_option maxHeartbeats 8000000 in
set_option maxRecDepth 100000 in
theorem impl_IsSubset.calls (a0 : Int) (a1 : Int) (r : Bool) (w : World) (h : impl_IsSubset.f a0 a1 = some r) :
  Calls Try.prog 83 #[.int .i64 a0, .int .i64 a1] w fun e w' => e = .returned (.bool r) ∧ Drawn0 w w' := by
 have H : ((impl_isAny.f a0).bind fun tA => (if tA = true then ((impl_isAny.f a1).bind fun tB => (if tB = true then (some ((Go.bits .andNot .i64 a0 a1) == 0)) else (some false))) else (some false))) = some r := h
 clear h
 replace H := bS H
 obtain ⟨tA, A3, H⟩ := H
 by_cases c4 : tA = true
 ·subst c4
  replace H := iP H
  replace H := bS H
  obtain ⟨tB, A5, H⟩ := H
  by_cases c6 : tB = true
  ·subst c6
   replace H := iP H
   obtain rfl := Option.some.inj H
   go_enter Try.func83, Try.ntmps83
   go_wp2_with (first | ((with_reducible refine gate_callee (f := 47) rfl ?_); refine goesL_ (some 6) rfl rfl Try.func47 kr rfl #[.int .i64 a0] rfl p5 ?_; (with_reducible refine (impl_isAny.calls a0 true _ A3.out).mono ?_); rintro e w' ⟨rfl, ⟨nd, rfl⟩⟩; refine ⟨_, rfl, ?_⟩) | (go_at_call 47; (with_reducible refine (impl_isAny.calls a1 true _ A5.out).mono ?_); rintro e w' ⟨rfl, ⟨nd, rfl⟩⟩))
   go_ret
   exact ⟨p7, by repeat (first | exact Drawn0.refl _ | apply Drawn0.step)⟩
  ·replace c6 := Bool.eq_false_iff.mpr c6
   subst c6
   replace H := iN H
   obtain rfl := Option.some.inj H
   go_enter Try.func83, Try.ntmps83
   go_wp2_with (first | ((with_reducible refine gate_callee (f := 47) rfl ?_); refine goesL_ (some 6) rfl rfl Try.func47 kr rfl #[.int .i64 a0] rfl p5 ?_; (with_reducible refine (impl_isAny.calls a0 true _ A3.out).mono ?_); rintro e w' ⟨rfl, ⟨nd, rfl⟩⟩; refine ⟨_, rfl, ?_⟩) | (go_at_call 47; (with_reducible refine (impl_isAny.calls a1 false _ A5.out).mono ?_); rintro e w' ⟨rfl, ⟨nd, rfl⟩⟩))
   go_ret
   exact ⟨p7, by repeat (first | exact Drawn0.refl _ | apply Drawn0.step)⟩
 ·replace c4 := Bool.eq_false_iff.mpr c4
  subst c4
  replace H := iN H
  obtain rfl := Option.some.inj H
  go_enter Try.func83, Try.ntmps83
  go_wp2_with (first | ((with_reducible refine gate_callee (f := 47) rfl ?_); refine goesL_ (some 6) rfl rfl Try.func47 kr rfl #[.int .i64 a0] rfl p5 ?_; (with_reducible refine (impl_isAny.calls a0 false _ A3.out).mono ?_); rintro e w' ⟨rfl, ⟨nd, rfl⟩⟩; refine ⟨_, rfl, ?_⟩))
  go_ret
  exact ⟨p7, by repeat (first | exact Drawn0.refl _ | apply Drawn0.step)⟩
end Go.Proofs.Ytbhckhblonkajaa.Q
namespace Go.Proofs.Ytbhckhblonkajaa.Q
open Go.RowKit Go.Proofs.YtbhckhblonkajaaW.PrintWords Go.Proofs.YtbhckhblonkajaaW.PrintLast
theorem impl_isAny.eq_ (a : Int) : impl_isAny.f a = some (decide (0 ≤ a ∧ a < 256)) := by
  unfold impl_isAny.f
  by_cases h : a ≥ 0
  · rw [if_pos h]; simp; omega
  · rw [if_neg h]; simp; omega
theorem impl_IsSubset.total (a b : Int) : ∃ r, impl_IsSubset.f a b = some r := by
  unfold impl_IsSubset.f
  rw [impl_isAny.eq_, impl_isAny.eq_]
  simp only [Option.bind_some]
  split
  · split <;> exact ⟨_, rfl⟩
  · exact ⟨_, rfl⟩
def subB (a b : Int) : Bool := impl_IsSubset.f a b == some true
theorem subB_some (a b : Int) : impl_IsSubset.f a b = some (subB a b) := by
  obtain ⟨r, hr⟩ := impl_IsSubset.total a b
  unfold subB
  rw [hr]
  cases r <;> rfl
theorem maxLit (t s : Int) (b : Nat) (w : World) (hb : w.heap[b]? = some (.cells #[.int .i64 s] 3 (0, 0))) :
    Calls Try.prog 82 #[.int .i64 t, .pointer (some ⟨b, 0, none⟩)] w fun e w' => e = .returned (.bool (t != s && subB s t)) ∧ ∃ q, w' = w.drewN q := by
  have hc : w.cell? ⟨b, 0, none⟩ = some (.int .i64 s) := (blk_cell hb 0).trans rfl
  have HS := Aside0.mk (subB_some s t)
  clear hb
  cases hq : (t != s) with
  | true =>
    have hq2 : (t == s) = false := by simpa using hq
    go_enter Try.func82, Try.ntmps82
    go_wp2_with (go_at_call 83; refine (impl_IsSubset.calls s t (subB s t) _ HS.out).mono ?_; rintro e w' ⟨rfl, ⟨nd, rfl⟩⟩)
    go_ret
    exact ⟨by simp, nd, rfl⟩
  | false =>
    have hq2 : (t == s) = true := by simpa using hq
    go_enter Try.func82, Try.ntmps82
    go_wp2
    go_ret
    exact ⟨by simp, 0, rfl⟩
def impl_MaximalSets_any.f (l0 : List Int) (a1 : Int) : Option Bool := some (l0.any fun t => t != a1 && subB a1 t)
theorem impl_MaximalSets_any.calls (A0 : Option Addr) (c0 : Nat) (l0 : List Int) (a1 : Int) (r : Bool) (w : World) (hr0 : Kd.C (Kd.int .i64) w A0 l0.length l0) (hc0 : l0.length ≤ c0) (h : impl_MaximalSets_any.f l0 a1 = some r)
    (b : Nat) (hb : w.heap[b]? = some (.cells #[.int .i64 a1] 3 (0, 0))) :
    Calls Try.prog 60 #[.slice A0 l0.length c0, .func (.func 82) #[] #[.pointer (some ⟨b, 0, none⟩)]] w fun e w' => e = .returned (.bool r) ∧ Drawn0 w w' := by
  obtain rfl := Option.some.inj h
  refine any_enc (α := Int) (fun x => x) (fun t => t != a1 && subB a1 t) 82 #[.pointer (some ⟨b, 0, none⟩)] (enters_of Try.func82 (by kernel_rfl) rfl) A0 c0 l0 l0 (by simp) w hr0 ?_
  intro W x hbw
  exact maxLit x a1 b W (blk_below hb hbw)
end Go.Proofs.Ytbhckhblonkajaa.Q
