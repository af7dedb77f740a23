/- Part of a proof: contracts and lemmas that the row's text uses; joined by a program. -/
import Derived.Test.YtbhckhblonkajaaH04
import Derived.Test.YtbhckhblonkajaaH15
import Derived.Test.YtbhckhblonkajaaH17
set_option linter.unusedVariables false
set_option linter.unusedSimpArgs false
namespace Go.Proofs.Ytbhckhblonkajaa.Q
open Go.RowKit Go.Proofs.YtbhckhblonkajaaW.PrintWords Go.Proofs.YtbhckhblonkajaaW.PrintLast Go.Proofs.YtbhckhblonkajaaW.PrintMore
attribute [local go_sem] max2_int min2_int max_two min_two max_three min_three max_four min_four
mutual
def spec_FirstFailure.l0 : Nat → Int → Int → List Int → Option (Int × Int × Int × Bool)
 | 0, _, _, _ => none
 | k + 1, x4, xB, xA => if x4 < (xA.length : Int) then (spec_FirstFailure.l1 k x4 0 xB xA) else (some (0, 0, 0, false))
def spec_FirstFailure.l1 : Nat → Int → Int → Int → List Int → Option (Int × Int × Int × Bool)
 | 0, _, _, _, _ => none
 | k + 1, x4, x5, xB, xA => if x5 < (xA.length : Int) then (spec_FirstFailure.l2 k x4 x5 0 xB xA) else (spec_FirstFailure.l0 k (wrap64 (x4 + 1)) xB xA)
def spec_FirstFailure.l2 : Nat → Int → Int → Int → Int → List Int → Option (Int × Int × Int × Bool)
 | 0, _, _, _, _, _ => none
 | k + 1, x4, x5, x6, xB, xA => if x6 < xB then (if 0 ≤ x4 then (if x4 < (xA.length : Int) then (if 0 ≤ x5 then (if x5 < (xA.length : Int) then ((spec_l2Has.f (rd xA x4) x6).bind fun tC => (if tC = true then ((spec_l2Has.f (rd xA x5) x6).bind fun tD => (if tD = true then (spec_FirstFailure.l2 k x4 x5 (wrap64 (x6 + 1)) xB xA) else ((spec_l4Exchange.f k xB xA (rd xA x4) (rd xA x5) x6).bind fun tE => (if tE = true then (spec_FirstFailure.l2 k x4 x5 (wrap64 (x6 + 1)) xB xA) else (some (rd xA x4, rd xA x5, x6, true)))))) else (spec_FirstFailure.l2 k x4 x5 (wrap64 (x6 + 1)) xB xA))) else (none)) else (none)) else (none)) else (none)) else (spec_FirstFailure.l1 k x4 (wrap64 (x5 + 1)) xB xA)
end
def spec_FirstFailure.f (k : Nat) (a0_0 : Int) (l0_1 : List Int) : Option (Int × Int × Int × Bool) := (spec_IsFamily.f k a0_0 l0_1).bind fun tA => (if tA = true then (spec_FirstFailure.l0 k 0 a0_0 l0_1) else (some (0, 0, 0, false)))
set_option maxHeartbeats 8000000 in
set_option maxRecDepth 100000 in
theorem spec_FirstFailure.calls (k : Nat) (a0_0 : Int) (A0_1 : Option Addr) (c0_1 : Nat) (l0_1 : List Int) (r1 : Int) (r2 : Int) (r3 : Int) (r4 : Bool) (w : World) (hr0_1 : Kd.C (Kd.int .i64) w A0_1 l0_1.length l0_1) (hc0_1 : l0_1.length ≤ c0_1) (h : spec_FirstFailure.f k a0_0 l0_1 = some (r1, r2, r3, r4)) :
  Calls Try.prog 37 #[.agg #[.int .i64 a0_0, .slice A0_1 l0_1.length c0_1]] w fun e w' => e = .returned (.tuple #[.agg #[.int .i64 r1, .int .i64 r2, .int .i64 r3], .bool r4]) ∧ Below w.heap.size w w' := by
 have hu27 := Try.underlying27
 have hu50 := Try.underlying50
 have HR0_1 := Aside0.mk hr0_1
 have HC0_1 := Aside0.mk hc0_1
 clear hr0_1 hc0_1
 have HB := Aside0.mk (Below.refl w.heap.size w)
 have H : ((spec_IsFamily.f k a0_0 l0_1).bind fun tJ => (if tJ = true then (spec_FirstFailure.l0 k 0 a0_0 l0_1) else (some (0, 0, 0, false)))) = some (r1, r2, r3, r4) := h
 clear h
 replace H := bS H
 obtain ⟨tJ, A2, H⟩ := H
 by_cases c3 : tJ = true
 ·subst c3
  replace H := iP H
  have H' := Aside0.mk H
  clear H
  go_enter Try.func37, Try.ntmps37
  go_wp2_with (first | (refine bE 1 #[.int .i64 a0_0, .slice A0_1 l0_1.length c0_1] 27 ?_; intro gbB hg w4 hbox hb; have BKB := Aside0.mk hbox; have GWB := aZ w hg; have GEB := aZ w hg; replace HB := aH hb; clear hb hbox hg) | (refine bE 2 #[.int .i64 0, .int .i64 0, .int .i64 0] 50 ?_; intro gbA hg w5 hbox hb; have BKA := Aside0.mk hbox; have GWA := aZ w hg; have GEA := aZ w hg; replace HB := aH hb; have NBB_A := aL BKB hg; have NBA_B := aG BKB hg; replace BKB := aB BKB hb; clear hb hbox hg; have hnb6 := NBB_A.out; have hnc6 := NBA_B.out; obtain ⟨hcz7_0, hcz7_1, hfz7_0, hfz7_1⟩ := bc2 BKB.out) | ((with_reducible refine gate_callee (f := 38) rfl ?_); refine goesL_ (some 13) rfl rfl Try.func38 kr rfl #[.int .i64 a0_0, .slice A0_1 l0_1.length c0_1] rfl p5 ?_; (with_reducible refine (spec_IsFamily.calls k a0_0 _ _ l0_1 true _ ?side1 ?side2 A2.out).mono ?_); (case side1 => exact pC (Kd.C_below HR0_1.out HB.out)); (case side2 => exact HC0_1.out); rintro e w' ⟨rfl, ⟨nd, rfl⟩⟩; refine ⟨_, rfl, ?_⟩))
  go_loopg [4] k (fun kq v4 w' => ∃ (x4_1 : Int) (xI_1 : Int) (xG_1 : Int) (xF_1 : Int), v4 = .int .i64 x4_1 ∧ Aside0 (spec_FirstFailure.l0 kq x4_1 a0_0 l0_1 = some (r1, r2, r3, r4)) ∧ Aside0 (kq ≤ k) ∧ Aside0 (w'.heap[gbB]? = some (.cells #[.int .i64 a0_0, (.slice A0_1 l0_1.length c0_1)] 27 (0, 0))) ∧ Aside0 (w'.heap[gbA]? = some (.cells #[.int .i64 xI_1, .int .i64 xG_1, .int .i64 xF_1] 50 (0, 0))) ∧ Aside0 (Below w.heap.size w w'))
  case atStart => exact ⟨(0), (0), (0), (0), p7, H', ⟨Nat.le_refl _⟩, ⟨pK BKB.out⟩, ⟨pK BKA.out⟩, ⟨pB⟩⟩
  case round =>
   clear H'
   try clear c3
   try clear hcz7_0
   try clear hcz7_1
   try clear hfz7_0
   try clear hfz7_1
   obtain ⟨x4_1, xI_1, xG_1, xF_1, rfl, HA, HK1, BKB, BKA, HB⟩ := hrel
   cases gk with
   | zero => exact absurd HA.out (by simp [spec_FirstFailure.l0])
   | succ k1 =>
    have H := HA.out
    clear HA
    simp only [spec_FirstFailure.l0] at H
    by_cases c8 : x4_1 < (l0_1.length : Int)
    ·rw [if_pos c8] at H
     have c8b0 : decide (x4_1 < (l0_1.length : Int)) = true := decide_eq_true c8
     clear c8
     have H' := Aside0.mk H
     clear H
     have hnb9 := NBB_A.out
     have hnc9 := NBA_B.out
     obtain ⟨hcz10_0, hcz10_1, hfz10_0, hfz10_1⟩ := bc2 BKB.out
     go_wp2
     go_loopg [5] k1 (fun kq v5 w' => ∃ (x5_2 : Int) (xI_2 : Int) (xG_2 : Int) (xF_2 : Int), v5 = .int .i64 x5_2 ∧ Aside0 (spec_FirstFailure.l1 kq x4_1 x5_2 a0_0 l0_1 = some (r1, r2, r3, r4)) ∧ Aside0 (kq ≤ k1) ∧ Aside0 (w'.heap[gbB]? = some (.cells #[.int .i64 a0_0, (.slice A0_1 l0_1.length c0_1)] 27 (0, 0))) ∧ Aside0 (w'.heap[gbA]? = some (.cells #[.int .i64 xI_2, .int .i64 xG_2, .int .i64 xF_2] 50 (0, 0))) ∧ Aside0 (Below w.heap.size w w'))
     case atStart => exact ⟨(0), (xI_1), (xG_1), (xF_1), p7, H', ⟨Nat.le_refl _⟩, ⟨pK BKB.out⟩, ⟨pK BKA.out⟩, ⟨pB⟩⟩
     case round =>
      clear H'
      try clear c3
      try clear c8
      try clear c8b0
      try clear hcz10_0
      try clear hcz10_1
      try clear hcz7_0
      try clear hcz7_1
      try clear hfz10_0
      try clear hfz10_1
      try clear hfz7_0
      try clear hfz7_1
      obtain ⟨x5_2, xI_2, xG_2, xF_2, rfl, HA, HK2, BKB, BKA, HB⟩ := hrel
      cases gk with
      | zero => exact absurd HA.out (by simp [spec_FirstFailure.l1])
      | succ k2 =>
       have H := HA.out
       clear HA
       simp only [spec_FirstFailure.l1] at H
       by_cases c11 : x5_2 < (l0_1.length : Int)
       ·rw [if_pos c11] at H
        have c11b0 : decide (x5_2 < (l0_1.length : Int)) = true := decide_eq_true c11
        clear c11
        have H' := Aside0.mk H
        clear H
        have hnb12 := NBB_A.out
        have hnc12 := NBA_B.out
        obtain ⟨hcz13_0, hcz13_1, hfz13_0, hfz13_1⟩ := bc2 BKB.out
        go_wp2
        go_loopg [6] k2 (fun kq v6 w' => ∃ (x6_3 : Int) (xI_3 : Int) (xG_3 : Int) (xF_3 : Int), v6 = .int .i64 x6_3 ∧ Aside0 (spec_FirstFailure.l2 kq x4_1 x5_2 x6_3 a0_0 l0_1 = some (r1, r2, r3, r4)) ∧ Aside0 (kq ≤ k2) ∧ Aside0 (w'.heap[gbB]? = some (.cells #[.int .i64 a0_0, (.slice A0_1 l0_1.length c0_1)] 27 (0, 0))) ∧ Aside0 (w'.heap[gbA]? = some (.cells #[.int .i64 xI_3, .int .i64 xG_3, .int .i64 xF_3] 50 (0, 0))) ∧ Aside0 (Below w.heap.size w w'))
        case atStart => exact ⟨(0), (xI_2), (xG_2), (xF_2), p7, H', ⟨Nat.le_refl _⟩, ⟨pK BKB.out⟩, ⟨pK BKA.out⟩, ⟨pB⟩⟩
        case round =>
         clear H'
         try clear c3
         try clear c8
         try clear c8b0
         try clear c11
         try clear c11b0
         try clear hcz10_0
         try clear hcz10_1
         try clear hcz13_0
         try clear hcz13_1
         try clear hcz7_0
         try clear hcz7_1
         try clear hfz10_0
         try clear hfz10_1
         try clear hfz13_0
         try clear hfz13_1
         try clear hfz7_0
         try clear hfz7_1
         obtain ⟨x6_3, xI_3, xG_3, xF_3, rfl, HA, HK3, BKB, BKA, HB⟩ := hrel
         cases gk with
         | zero => exact absurd HA.out (by simp [spec_FirstFailure.l2])
         | succ k3 =>
          have H := HA.out
          clear HA
          simp only [spec_FirstFailure.l2] at H
          by_cases c14 : x6_3 < a0_0
          ·rw [if_pos c14] at H
           have c14b0 : decide (x6_3 < a0_0) = true := decide_eq_true c14
           clear c14
           by_cases c15 : 0 ≤ x4_1
           ·rw [if_pos c15] at H
            have c15b0 : decide (0 ≤ x4_1) = true := decide_eq_true c15
            clear c15
            by_cases c16 : x4_1 < (l0_1.length : Int)
            ·rw [if_pos c16] at H
             have c16b0 : decide (x4_1 < (l0_1.length : Int)) = true := decide_eq_true c16
             clear c16
             by_cases c17 : 0 ≤ x5_2
             ·rw [if_pos c17] at H
              have c17b0 : decide (0 ≤ x5_2) = true := decide_eq_true c17
              clear c17
              by_cases c18 : x5_2 < (l0_1.length : Int)
              ·rw [if_pos c18] at H
               have c18b0 : decide (x5_2 < (l0_1.length : Int)) = true := decide_eq_true c18
               clear c18
               replace H := bS H
               obtain ⟨tL, A19, H⟩ := H
               by_cases c20 : tL = true
               ·subst c20
                replace H := iP H
                replace H := bS H
                obtain ⟨tM, A21, H⟩ := H
                by_cases c22 : tM = true
                ·subst c22
                 replace H := iP H
                 have H' := Aside0.mk H
                 clear H
                 have hnb23 := NBB_A.out
                 have hnc23 := NBA_B.out
                 obtain ⟨hcz24_0, hcz24_1, hfz24_0, hfz24_1⟩ := bc2 BKB.out
                 have pD : 0 ≤ (x4_1 : Int) := oD
                 have qD : x4_1 < (l0_1.length : Int) := oD
                 obtain ⟨adD, eD, hxD_0⟩ := Kd.at_int HR0_1.out x4_1 pD qD
                 cases eD
                 replace hxD_0 := (HB.out.cell (World.block_lt_of_cell? w _ hxD_0)).trans hxD_0
                 replace pD := eq_true pD
                 replace qD := eq_true qD
                 have pE : 0 ≤ (x5_2 : Int) := oD
                 have qE : x5_2 < (l0_1.length : Int) := oD
                 obtain ⟨adE, eE, hxE_0⟩ := Kd.at_int HR0_1.out x5_2 pE qE
                 obtain rfl : adD = adE := (by injection eE)
                 replace hxE_0 := (HB.out.cell (World.block_lt_of_cell? w _ hxE_0)).trans hxE_0
                 replace pE := eq_true pE
                 replace qE := eq_true qE
                 go_wp2_with (first | ((with_reducible refine gate_callee (f := 40) rfl ?_); refine goesL_ (some 48) rfl rfl Try.func40 kr rfl #[.int .i64 (rd l0_1 x4_1), .int .i64 x6_3] rfl p5 ?_; (with_reducible refine (spec_l2Has.calls (rd l0_1 x4_1) x6_3 true _ A19.out).mono ?_); rintro e w' ⟨rfl, ⟨nd, rfl⟩⟩; refine ⟨_, rfl, ?_⟩) | (go_at_call 40; (with_reducible refine (spec_l2Has.calls (rd l0_1 x5_2) x6_3 true _ A21.out).mono ?_); rintro e w' ⟨rfl, ⟨nd, rfl⟩⟩))
                 go_roundg k3
                 case measure => have := HK1.out; have := HK2.out; have := HK3.out; omega
                 case rel => exact ⟨(wrap64 (x6_3 + 1)), (xI_3), (xG_3), (xF_3), p7, H', ⟨by have := HK1.out; have := HK2.out; have := HK3.out; omega⟩, ⟨pK BKB.out⟩, ⟨pK BKA.out⟩, ⟨pB⟩⟩
                ·replace c22 := Bool.eq_false_iff.mpr c22
                 subst c22
                 replace H := iN H
                 replace H := bS H
                 obtain ⟨tN, A25, H⟩ := H
                 by_cases c26 : tN = true
                 ·subst c26
                  replace H := iP H
                  have H' := Aside0.mk H
                  clear H
                  have hnb27 := NBB_A.out
                  have hnc27 := NBA_B.out
                  obtain ⟨hcz28_0, hcz28_1, hfz28_0, hfz28_1⟩ := bc2 BKB.out
                  have pD : 0 ≤ (x4_1 : Int) := oD
                  have qD : x4_1 < (l0_1.length : Int) := oD
                  obtain ⟨adD, eD, hxD_0⟩ := Kd.at_int HR0_1.out x4_1 pD qD
                  cases eD
                  replace hxD_0 := (HB.out.cell (World.block_lt_of_cell? w _ hxD_0)).trans hxD_0
                  replace pD := eq_true pD
                  replace qD := eq_true qD
                  have pE : 0 ≤ (x5_2 : Int) := oD
                  have qE : x5_2 < (l0_1.length : Int) := oD
                  obtain ⟨adE, eE, hxE_0⟩ := Kd.at_int HR0_1.out x5_2 pE qE
                  obtain rfl : adD = adE := (by injection eE)
                  replace hxE_0 := (HB.out.cell (World.block_lt_of_cell? w _ hxE_0)).trans hxE_0
                  replace pE := eq_true pE
                  replace qE := eq_true qE
                  go_wp2_with (first | ((with_reducible refine gate_callee (f := 40) rfl ?_); refine goesL_ (some 48) rfl rfl Try.func40 kr rfl #[.int .i64 (rd l0_1 x4_1), .int .i64 x6_3] rfl p5 ?_; (with_reducible refine (spec_l2Has.calls (rd l0_1 x4_1) x6_3 true _ A19.out).mono ?_); rintro e w' ⟨rfl, ⟨nd, rfl⟩⟩; refine ⟨_, rfl, ?_⟩) | (go_at_call 40; (with_reducible refine (spec_l2Has.calls (rd l0_1 x5_2) x6_3 false _ A21.out).mono ?_); rintro e w' ⟨rfl, ⟨nd, rfl⟩⟩) | (go_at_call 51; (with_reducible refine (spec_l4Exchange.calls k3 a0_0 _ _ l0_1 (rd l0_1 x4_1) (rd l0_1 x5_2) x6_3 true _ ?side1 ?side2 A25.out).mono ?_); (case side1 => repeat (first | exact (Kd.C_below HR0_1.out pB) | (with_reducible refine Kd.C_alloc ?_ _) | (with_reducible refine Kd.C_drewN ?_ _) | (with_reducible refine Kd.C_drew ?_))); (case side2 => exact HC0_1.out); rintro e w29 ⟨rfl, hb⟩; replace BKB := aB BKB hb; replace BKA := aB BKA hb; replace HB := aH hb; (try clear hb)))
                  go_roundg k3
                  case measure => have := HK1.out; have := HK2.out; have := HK3.out; omega
                  case rel => exact ⟨(wrap64 (x6_3 + 1)), (xI_3), (xG_3), (xF_3), p7, H', ⟨by have := HK1.out; have := HK2.out; have := HK3.out; omega⟩, ⟨pK BKB.out⟩, ⟨pK BKA.out⟩, ⟨pB⟩⟩
                 ·replace c26 := Bool.eq_false_iff.mpr c26
                  subst c26
                  replace H := iN H
                  simp only [Option.some.injEq, Prod.mk.injEq] at H
                  obtain ⟨rfl, rfl, rfl, rfl⟩ := H
                  have hnb30 := NBB_A.out
                  have hnc30 := NBA_B.out
                  obtain ⟨hcz31_0, hcz31_1, hfz31_0, hfz31_1⟩ := bc2 BKB.out
                  have pD : 0 ≤ (x4_1 : Int) := oD
                  have qD : x4_1 < (l0_1.length : Int) := oD
                  obtain ⟨adD, eD, hxD_0⟩ := Kd.at_int HR0_1.out x4_1 pD qD
                  cases eD
                  replace hxD_0 := (HB.out.cell (World.block_lt_of_cell? w _ hxD_0)).trans hxD_0
                  replace pD := eq_true pD
                  replace qD := eq_true qD
                  have pE : 0 ≤ (x5_2 : Int) := oD
                  have qE : x5_2 < (l0_1.length : Int) := oD
                  obtain ⟨adE, eE, hxE_0⟩ := Kd.at_int HR0_1.out x5_2 pE qE
                  obtain rfl : adD = adE := (by injection eE)
                  replace hxE_0 := (HB.out.cell (World.block_lt_of_cell? w _ hxE_0)).trans hxE_0
                  replace pE := eq_true pE
                  replace qE := eq_true qE
                  go_wp2_with (first | ((with_reducible refine gate_callee (f := 40) rfl ?_); refine goesL_ (some 48) rfl rfl Try.func40 kr rfl #[.int .i64 (rd l0_1 x4_1), .int .i64 x6_3] rfl p5 ?_; (with_reducible refine (spec_l2Has.calls (rd l0_1 x4_1) x6_3 true _ A19.out).mono ?_); rintro e w' ⟨rfl, ⟨nd, rfl⟩⟩; refine ⟨_, rfl, ?_⟩; (try (rw [drewN_self wr]; generalize hq_ : World.drewN wr _ = wr; have n0_ : Aside0 (wr.heap[gbB]? = some (.cells #[.int .i64 a0_0, .slice (some adD) l0_1.length c0_1] 27 (0, 0))) := ⟨by rw [← hq_]; exact (pK BKB.out)⟩; have n1_ : Aside0 (wr.heap[gbA]? = some (.cells #[.int .i64 xI_3, .int .i64 xG_3, .int .i64 xF_3] 50 (0, 0))) := ⟨by rw [← hq_]; exact (pK BKA.out)⟩; have n2_ : Aside0 (Below w.heap.size w wr) := ⟨by rw [← hq_]; exact pB⟩; clear BKB BKA HB hq_; have BKB := n0_; have BKA := n1_; have HB := n2_; clear n0_ n1_ n2_; have hrz_gb115_0 : wr.cell? ⟨gbB, 0, none⟩ = some (.int .i64 a0_0) := (blk_cell BKB.out 0).trans rfl; have hrf_gb115_0 := blk_frozen BKB.out 0; have hrz_gb115_1 : wr.cell? ⟨gbB, 1, none⟩ = some (.slice (some adD) l0_1.length c0_1) := (blk_cell BKB.out 1).trans rfl; have hrf_gb115_1 := blk_frozen BKB.out 1; have hrz_gb116_0 : wr.cell? ⟨gbA, 0, none⟩ = some (.int .i64 xI_3) := (blk_cell BKA.out 0).trans rfl; have hrf_gb116_0 := blk_frozen BKA.out 0; have hrz_gb116_1 : wr.cell? ⟨gbA, 1, none⟩ = some (.int .i64 xG_3) := (blk_cell BKA.out 1).trans rfl; have hrf_gb116_1 := blk_frozen BKA.out 1; have hrz_gb116_2 : wr.cell? ⟨gbA, 2, none⟩ = some (.int .i64 xF_3) := (blk_cell BKA.out 2).trans rfl; have hrf_gb116_2 := blk_frozen BKA.out 2))) | (go_at_call 40; (with_reducible refine (spec_l2Has.calls (rd l0_1 x5_2) x6_3 false _ A21.out).mono ?_); rintro e w' ⟨rfl, ⟨nd, rfl⟩⟩; (try (rw [drewN_self wr]; generalize hq_ : World.drewN wr _ = wr; have n0_ : Aside0 (wr.heap[gbB]? = some (.cells #[.int .i64 a0_0, .slice (some adD) l0_1.length c0_1] 27 (0, 0))) := ⟨by rw [← hq_]; exact (pK BKB.out)⟩; have n1_ : Aside0 (wr.heap[gbA]? = some (.cells #[.int .i64 xI_3, .int .i64 xG_3, .int .i64 xF_3] 50 (0, 0))) := ⟨by rw [← hq_]; exact (pK BKA.out)⟩; have n2_ : Aside0 (Below w.heap.size w wr) := ⟨by rw [← hq_]; exact pB⟩; clear BKB BKA HB hq_; have BKB := n0_; have BKA := n1_; have HB := n2_; clear n0_ n1_ n2_; have hrz_gb115_0 : wr.cell? ⟨gbB, 0, none⟩ = some (.int .i64 a0_0) := (blk_cell BKB.out 0).trans rfl; have hrf_gb115_0 := blk_frozen BKB.out 0; have hrz_gb115_1 : wr.cell? ⟨gbB, 1, none⟩ = some (.slice (some adD) l0_1.length c0_1) := (blk_cell BKB.out 1).trans rfl; have hrf_gb115_1 := blk_frozen BKB.out 1; have hrz_gb116_0 : wr.cell? ⟨gbA, 0, none⟩ = some (.int .i64 xI_3) := (blk_cell BKA.out 0).trans rfl; have hrf_gb116_0 := blk_frozen BKA.out 0; have hrz_gb116_1 : wr.cell? ⟨gbA, 1, none⟩ = some (.int .i64 xG_3) := (blk_cell BKA.out 1).trans rfl; have hrf_gb116_1 := blk_frozen BKA.out 1; have hrz_gb116_2 : wr.cell? ⟨gbA, 2, none⟩ = some (.int .i64 xF_3) := (blk_cell BKA.out 2).trans rfl; have hrf_gb116_2 := blk_frozen BKA.out 2))) | (go_at_call 51; (with_reducible refine (spec_l4Exchange.calls k3 a0_0 _ _ l0_1 (rd l0_1 x4_1) (rd l0_1 x5_2) x6_3 false _ ?side1 ?side2 A25.out).mono ?_); (case side1 => exact pC (Kd.C_below HR0_1.out HB.out)); (case side2 => exact HC0_1.out); rintro e w32 ⟨rfl, hb⟩; replace BKB := aB BKB hb; replace BKA := aB BKA hb; replace HB := aH hb; (try clear hb); have hcz33_0 : w32.cell? ⟨gbA, 0, none⟩ = some (.int .i64 xI_3) := (blk_cell BKA.out 0).trans rfl; have hcz33_1 : w32.cell? ⟨gbA, 1, none⟩ = some (.int .i64 xG_3) := (blk_cell BKA.out 1).trans rfl; have hcz33_2 : w32.cell? ⟨gbA, 2, none⟩ = some (.int .i64 xF_3) := (blk_cell BKA.out 2).trans rfl; have hfz33_0 := blk_frozen BKA.out 0; have hfz33_1 := blk_frozen BKA.out 1; have hfz33_2 := blk_frozen BKA.out 2))
                  refine bodyPost_ret (results_ct rfl _ _ gbA 50 #[.int .i64 (rd l0_1 x4_1), .int .i64 (rd l0_1 x5_2), .int .i64 x6_3] (0, 0) _ rfl (by (with_reducible repeat (first | refine blk_drewN ?_ _ | refine blk_drew ?_ | refine blk_alloc ?_ _)); refine blk_put (cs := #[.int .i64 (rd l0_1 x4_1), .int .i64 (rd l0_1 x5_2), .int .i64 xF_3]) ?_ 2 _ rfl; (with_reducible repeat (first | refine blk_drewN ?_ _ | refine blk_drew ?_ | refine blk_alloc ?_ _)); refine blk_put (cs := #[.int .i64 (rd l0_1 x4_1), .int .i64 xG_3, .int .i64 xF_3]) ?_ 1 _ rfl; (with_reducible repeat (first | refine blk_drewN ?_ _ | refine blk_drew ?_ | refine blk_alloc ?_ _)); refine blk_put (cs := #[.int .i64 xI_3, .int .i64 xG_3, .int .i64 xF_3]) ?_ 0 _ rfl; exact pK BKA.out) Try.underlying50 rfl kr) rfl ?_
                  exact ⟨p8, pB⟩
               ·replace c20 := Bool.eq_false_iff.mpr c20
                subst c20
                replace H := iN H
                have H' := Aside0.mk H
                clear H
                have hnb34 := NBB_A.out
                have hnc34 := NBA_B.out
                obtain ⟨hcz35_0, hcz35_1, hfz35_0, hfz35_1⟩ := bc2 BKB.out
                have pD : 0 ≤ (x4_1 : Int) := oD
                have qD : x4_1 < (l0_1.length : Int) := oD
                obtain ⟨adD, eD, hxD_0⟩ := Kd.at_int HR0_1.out x4_1 pD qD
                cases eD
                replace hxD_0 := (HB.out.cell (World.block_lt_of_cell? w _ hxD_0)).trans hxD_0
                replace pD := eq_true pD
                replace qD := eq_true qD
                have pE : 0 ≤ (x5_2 : Int) := oD
                have qE : x5_2 < (l0_1.length : Int) := oD
                obtain ⟨adE, eE, hxE_0⟩ := Kd.at_int HR0_1.out x5_2 pE qE
                obtain rfl : adD = adE := (by injection eE)
                replace hxE_0 := (HB.out.cell (World.block_lt_of_cell? w _ hxE_0)).trans hxE_0
                replace pE := eq_true pE
                replace qE := eq_true qE
                go_wp2_with (first | ((with_reducible refine gate_callee (f := 40) rfl ?_); refine goesL_ (some 48) rfl rfl Try.func40 kr rfl #[.int .i64 (rd l0_1 x4_1), .int .i64 x6_3] rfl p5 ?_; (with_reducible refine (spec_l2Has.calls (rd l0_1 x4_1) x6_3 false _ A19.out).mono ?_); rintro e w' ⟨rfl, ⟨nd, rfl⟩⟩; refine ⟨_, rfl, ?_⟩))
                go_roundg k3
                case measure => have := HK1.out; have := HK2.out; have := HK3.out; omega
                case rel => exact ⟨(wrap64 (x6_3 + 1)), (xI_3), (xG_3), (xF_3), p7, H', ⟨by have := HK1.out; have := HK2.out; have := HK3.out; omega⟩, ⟨pK BKB.out⟩, ⟨pK BKA.out⟩, ⟨pB⟩⟩
              ·rw [if_neg c18] at H
               exact absurd H (by simp)
             ·rw [if_neg c17] at H
              exact absurd H (by simp)
            ·rw [if_neg c16] at H
             exact absurd H (by simp)
           ·rw [if_neg c15] at H
            exact absurd H (by simp)
          ·rw [if_neg c14] at H
           have c14b0 : decide (x6_3 < a0_0) = false := decide_eq_false c14
           clear c14
           have H' := Aside0.mk H
           clear H
           have hnb36 := NBB_A.out
           have hnc36 := NBA_B.out
           obtain ⟨hcz37_0, hcz37_1, hfz37_0, hfz37_1⟩ := bc2 BKB.out
           go_wp2
           go_roundg k3
           case measure => have := HK1.out; have := HK2.out; have := HK3.out; omega
           case rel => exact ⟨(wrap64 (x5_2 + 1)), (xI_3), (xG_3), (xF_3), p7, H', ⟨by have := HK1.out; have := HK2.out; have := HK3.out; omega⟩, ⟨pK BKB.out⟩, ⟨pK BKA.out⟩, ⟨pB⟩⟩
       ·rw [if_neg c11] at H
        have c11b0 : decide (x5_2 < (l0_1.length : Int)) = false := decide_eq_false c11
        clear c11
        have H' := Aside0.mk H
        clear H
        have hnb38 := NBB_A.out
        have hnc38 := NBA_B.out
        obtain ⟨hcz39_0, hcz39_1, hfz39_0, hfz39_1⟩ := bc2 BKB.out
        go_wp2
        go_roundg k2
        case measure => have := HK1.out; have := HK2.out; omega
        case rel => exact ⟨(wrap64 (x4_1 + 1)), (xI_2), (xG_2), (xF_2), p7, H', ⟨by have := HK1.out; have := HK2.out; omega⟩, ⟨pK BKB.out⟩, ⟨pK BKA.out⟩, ⟨pB⟩⟩
    ·rw [if_neg c8] at H
     have c8b0 : decide (x4_1 < (l0_1.length : Int)) = false := decide_eq_false c8
     clear c8
     simp only [Option.some.injEq, Prod.mk.injEq] at H
     obtain ⟨rfl, rfl, rfl, rfl⟩ := H
     have hnb40 := NBB_A.out
     have hnc40 := NBA_B.out
     obtain ⟨hcz41_0, hcz41_1, hfz41_0, hfz41_1⟩ := bc2 BKB.out
     have hcz42_0 : wr.cell? ⟨gbA, 0, none⟩ = some (.int .i64 xI_1) := (blk_cell BKA.out 0).trans rfl
     have hcz42_1 : wr.cell? ⟨gbA, 1, none⟩ = some (.int .i64 xG_1) := (blk_cell BKA.out 1).trans rfl
     have hcz42_2 : wr.cell? ⟨gbA, 2, none⟩ = some (.int .i64 xF_1) := (blk_cell BKA.out 2).trans rfl
     have hfz42_0 := blk_frozen BKA.out 0
     have hfz42_1 := blk_frozen BKA.out 1
     have hfz42_2 := blk_frozen BKA.out 2
     go_wp2
     refine bodyPost_ret (results_ct rfl _ _ gbA 50 #[.int .i64 0, .int .i64 0, .int .i64 0] (0, 0) _ rfl (by (with_reducible repeat (first | refine blk_drewN ?_ _ | refine blk_drew ?_ | refine blk_alloc ?_ _)); refine blk_put (cs := #[.int .i64 0, .int .i64 0, .int .i64 xF_1]) ?_ 2 _ rfl; (with_reducible repeat (first | refine blk_drewN ?_ _ | refine blk_drew ?_ | refine blk_alloc ?_ _)); refine blk_put (cs := #[.int .i64 0, .int .i64 xG_1, .int .i64 xF_1]) ?_ 1 _ rfl; (with_reducible repeat (first | refine blk_drewN ?_ _ | refine blk_drew ?_ | refine blk_alloc ?_ _)); refine blk_put (cs := #[.int .i64 xI_1, .int .i64 xG_1, .int .i64 xF_1]) ?_ 0 _ rfl; exact pK BKA.out) Try.underlying50 rfl kr) rfl ?_
     exact ⟨p8, pB⟩
 ·replace c3 := Bool.eq_false_iff.mpr c3
  subst c3
  replace H := iN H
  simp only [Option.some.injEq, Prod.mk.injEq] at H
  obtain ⟨rfl, rfl, rfl, rfl⟩ := H
  go_enter Try.func37, Try.ntmps37
  go_wp2_with (first | (refine bE 1 #[.int .i64 a0_0, .slice A0_1 l0_1.length c0_1] 27 ?_; intro gbB hg w43 hbox hb; have BKB := Aside0.mk hbox; have GWB := aZ w hg; have GEB := aZ w hg; replace HB := aH hb; clear hb hbox hg) | (refine bE 2 #[.int .i64 0, .int .i64 0, .int .i64 0] 50 ?_; intro gbA hg w44 hbox hb; have BKA := Aside0.mk hbox; have GWA := aZ w hg; have GEA := aZ w hg; replace HB := aH hb; have NBB_A := aL BKB hg; have NBA_B := aG BKB hg; replace BKB := aB BKB hb; clear hb hbox hg; have hnb45 := NBB_A.out; have hnc45 := NBA_B.out; obtain ⟨hcz46_0, hcz46_1, hfz46_0, hfz46_1⟩ := bc2 BKB.out) | ((with_reducible refine gate_callee (f := 38) rfl ?_); refine goesL_ (some 13) rfl rfl Try.func38 kr rfl #[.int .i64 a0_0, .slice A0_1 l0_1.length c0_1] rfl p5 ?_; (with_reducible refine (spec_IsFamily.calls k a0_0 _ _ l0_1 false _ ?side1 ?side2 A2.out).mono ?_); (case side1 => exact pC (Kd.C_below HR0_1.out HB.out)); (case side2 => exact HC0_1.out); rintro e w' ⟨rfl, ⟨nd, rfl⟩⟩; refine ⟨_, rfl, ?_⟩; (try (rw [drewN_self w44]; generalize hq_ : World.drewN w44 _ = w44; have n0_ : Aside0 (w44.heap[gbB]? = some (.cells #[.int .i64 a0_0, .slice A0_1 l0_1.length c0_1] 27 (0, 0))) := ⟨by rw [← hq_]; exact (pK BKB.out)⟩; have n1_ : Aside0 (w44.heap[gbA]? = some (.cells #[.int .i64 0, .int .i64 0, .int .i64 0] 50 (0, 0))) := ⟨by rw [← hq_]; exact (pK BKA.out)⟩; have n2_ : Aside0 (Below w.heap.size w w44) := ⟨by rw [← hq_]; exact pB⟩; clear BKB BKA HB hq_; have BKB := n0_; have BKA := n1_; have HB := n2_; clear n0_ n1_ n2_; have hrz_gb115_0 : w44.cell? ⟨gbB, 0, none⟩ = some (.int .i64 a0_0) := (blk_cell BKB.out 0).trans rfl; have hrf_gb115_0 := blk_frozen BKB.out 0; have hrz_gb115_1 : w44.cell? ⟨gbB, 1, none⟩ = some (.slice A0_1 l0_1.length c0_1) := (blk_cell BKB.out 1).trans rfl; have hrf_gb115_1 := blk_frozen BKB.out 1; have hrz_gb116_0 : w44.cell? ⟨gbA, 0, none⟩ = some (.int .i64 0) := (blk_cell BKA.out 0).trans rfl; have hrf_gb116_0 := blk_frozen BKA.out 0; have hrz_gb116_1 : w44.cell? ⟨gbA, 1, none⟩ = some (.int .i64 0) := (blk_cell BKA.out 1).trans rfl; have hrf_gb116_1 := blk_frozen BKA.out 1; have hrz_gb116_2 : w44.cell? ⟨gbA, 2, none⟩ = some (.int .i64 0) := (blk_cell BKA.out 2).trans rfl; have hrf_gb116_2 := blk_frozen BKA.out 2)); have hcz47_0 : w44.cell? ⟨gbA, 0, none⟩ = some (.int .i64 0) := (blk_cell BKA.out 0).trans rfl; have hcz47_1 : w44.cell? ⟨gbA, 1, none⟩ = some (.int .i64 0) := (blk_cell BKA.out 1).trans rfl; have hcz47_2 : w44.cell? ⟨gbA, 2, none⟩ = some (.int .i64 0) := (blk_cell BKA.out 2).trans rfl; have hfz47_0 := blk_frozen BKA.out 0; have hfz47_1 := blk_frozen BKA.out 1; have hfz47_2 := blk_frozen BKA.out 2))
  refine bodyPost_ret (results_ct rfl _ _ gbA 50 #[.int .i64 0, .int .i64 0, .int .i64 0] (0, 0) _ rfl (by (with_reducible repeat (first | refine blk_drewN ?_ _ | refine blk_drew ?_ | refine blk_alloc ?_ _)); refine blk_put (cs := #[.int .i64 0, .int .i64 0, .int .i64 0]) ?_ 2 _ rfl; (with_reducible repeat (first | refine blk_drewN ?_ _ | refine blk_drew ?_ | refine blk_alloc ?_ _)); refine blk_put (cs := #[.int .i64 0, .int .i64 0, .int .i64 0]) ?_ 1 _ rfl; (with_reducible repeat (first | refine blk_drewN ?_ _ | refine blk_drew ?_ | refine blk_alloc ?_ _)); refine blk_put (cs := #[.int .i64 0, .int .i64 0, .int .i64 0]) ?_ 0 _ rfl; exact pK BKA.out) Try.underlying50 rfl kr) rfl ?_
  exact ⟨p8, pB⟩
def spec_IsMatroid.f (k : Nat) (a0_0 : Int) (l0_1 : List Int) : Option (Bool) := (spec_FirstFailure.f k a0_0 l0_1).bind fun btA => ((spec_IsFamily.f k a0_0 l0_1).bind fun tB => (if tB = true then (if (l0_1.length : Int) > 0 then (some (!btA.2.2.2)) else (some false)) else (some false)))
set_option maxHeartbeats 8000000 in
set_option maxRecDepth 100000 in
theorem spec_IsMatroid.calls (k : Nat) (a0_0 : Int) (A0_1 : Option Addr) (c0_1 : Nat) (l0_1 : List Int) (r : Bool) (w : World) (hr0_1 : Kd.C (Kd.int .i64) w A0_1 l0_1.length l0_1) (hc0_1 : l0_1.length ≤ c0_1) (h : spec_IsMatroid.f k a0_0 l0_1 = some r) :
  Calls Try.prog 25 #[.agg #[.int .i64 a0_0, .slice A0_1 l0_1.length c0_1]] w fun e w' => e = .returned (.bool r) ∧ Below w.heap.size w w' := by
 have hu27 := Try.underlying27
 have hu50 := Try.underlying50
 have HR0_1 := Aside0.mk hr0_1
 have HC0_1 := Aside0.mk hc0_1
 clear hr0_1 hc0_1
 have HB := Aside0.mk (Below.refl w.heap.size w)
 have H : ((spec_FirstFailure.f k a0_0 l0_1).bind fun btD => ((spec_IsFamily.f k a0_0 l0_1).bind fun tE => (if tE = true then (if (l0_1.length : Int) > 0 then (some (!btD.2.2.2)) else (some false)) else (some false)))) = some r := h
 clear h
 replace H := Option.bind_eq_some_iff.mp H
 obtain ⟨⟨tD, tG, tI, tF⟩, A20, H⟩ := H
 replace H : ((spec_IsFamily.f k a0_0 l0_1).bind fun tE => (if tE = true then (if (l0_1.length : Int) > 0 then (some (!tF)) else (some false)) else (some false))) = some r := H
 have A2 := Aside0.mk A20
 clear A20
 replace H := bS H
 obtain ⟨tE, A3, H⟩ := H
 by_cases c4 : tE = true
 ·subst c4
  replace H := iP H
  by_cases c5 : (l0_1.length : Int) > 0
  ·rw [if_pos c5] at H
   have c5b0 : decide (0 < (l0_1.length : Int)) = true := decide_eq_true c5
   have c5b1 : decide (0 < l0_1.length) = true := decide_eq_true (by omega)
   clear c5
   obtain rfl := Option.some.inj H
   go_enter Try.func25, Try.ntmps25
   go_wp2_with (first | ((with_reducible refine gate_dst (N := 1) rfl ?_); (try (refine gate_guard (by rfl) ?_; dsimp only)); refine box_event ?hg (N := 1) ?hd (cs := #[.int .i64 a0_0, .slice A0_1 l0_1.length c0_1]) (t := 27) ?hr ?_; (case hd => rfl); (case hg => rfl); (case hr => first | (go_simp; done) | (go_simp; rfl)); intro gbB hg w6 hbox hb; have BKB := Aside0.mk hbox; have GWB := aZ w hg; have GEB := aZ w hg; replace HB := aH hb; clear hb hbox hg; obtain ⟨hcz7_0, hcz7_1, hfz7_0, hfz7_1⟩ := bc2 BKB.out) | ((with_reducible refine gate_callee (f := 37) rfl ?_); refine goesL_ (some 7) rfl rfl Try.func37 kr rfl #[.agg #[.int .i64 a0_0, .slice A0_1 l0_1.length c0_1]] rfl p5 ?_; (with_reducible refine (spec_FirstFailure.calls k a0_0 _ _ l0_1 tD tG tI tF _ ?side1 ?side2 A2.out).mono ?_); (case side1 => exact pC (Kd.C_below HR0_1.out HB.out)); (case side2 => exact HC0_1.out); rintro e w8 ⟨rfl, hb⟩; refine ⟨_, rfl, ?_⟩; replace BKB := aB BKB hb; replace HB := aH hb; (try clear hb)) | ((with_reducible refine gate_dst (N := 3) rfl ?_); (try (refine gate_guard (by rfl) ?_; dsimp only)); refine box_event ?hg (N := 3) ?hd (cs := #[.int .i64 0, .int .i64 0, .int .i64 0]) (t := 50) ?hr ?_; (case hd => rfl); (case hg => rfl); (case hr => first | (go_simp; done) | (go_simp; rfl)); intro gbA hg w9 hbox hb; have BKA := Aside0.mk hbox; have GWA := aZ w hg; have GEA := aZ w hg; replace HB := aH hb; have NBB_A := aL BKB hg; have NBA_B := aG BKB hg; replace BKB := aB BKB hb; clear hb hbox hg; have hnb10 := NBA_B.out; have hnc10 := NBB_A.out; have hcz11_0 : w9.cell? ⟨gbA, 0, none⟩ = some (.int .i64 0) := (blk_cell BKA.out 0).trans rfl; have hcz11_1 : w9.cell? ⟨gbA, 1, none⟩ = some (.int .i64 0) := (blk_cell BKA.out 1).trans rfl; have hcz11_2 : w9.cell? ⟨gbA, 2, none⟩ = some (.int .i64 0) := (blk_cell BKA.out 2).trans rfl; have hfz11_0 := blk_frozen BKA.out 0; have hfz11_1 := blk_frozen BKA.out 1; have hfz11_2 := blk_frozen BKA.out 2; obtain ⟨hcz12_0, hcz12_1, hfz12_0, hfz12_1⟩ := bc2 BKB.out) | ((with_reducible refine gate_callee (f := 38) rfl ?_); refine goesL_ (some 14) rfl rfl Try.func38 kr rfl #[.int .i64 a0_0, .slice A0_1 l0_1.length c0_1] rfl p5 ?_; (with_reducible refine (spec_IsFamily.calls k a0_0 _ _ l0_1 true _ ?side1 ?side2 A3.out).mono ?_); (case side1 => exact Kd.C_below HR0_1.out pB); (case side2 => exact HC0_1.out); rintro e w' ⟨rfl, ⟨nd, rfl⟩⟩; refine ⟨_, rfl, ?_⟩))
   go_ret
   exact ⟨p8, pB⟩
  ·rw [if_neg c5] at H
   have c5b0 : decide (0 < (l0_1.length : Int)) = false := decide_eq_false c5
   have c5b1 : decide (0 < l0_1.length) = false := decide_eq_false (by omega)
   clear c5
   obtain rfl := Option.some.inj H
   go_enter Try.func25, Try.ntmps25
   go_wp2_with (first | ((with_reducible refine gate_dst (N := 1) rfl ?_); (try (refine gate_guard (by rfl) ?_; dsimp only)); refine box_event ?hg (N := 1) ?hd (cs := #[.int .i64 a0_0, .slice A0_1 l0_1.length c0_1]) (t := 27) ?hr ?_; (case hd => rfl); (case hg => rfl); (case hr => first | (go_simp; done) | (go_simp; rfl)); intro gbB hg w13 hbox hb; have BKB := Aside0.mk hbox; have GWB := aZ w hg; have GEB := aZ w hg; replace HB := aH hb; clear hb hbox hg; obtain ⟨hcz14_0, hcz14_1, hfz14_0, hfz14_1⟩ := bc2 BKB.out) | ((with_reducible refine gate_callee (f := 37) rfl ?_); refine goesL_ (some 7) rfl rfl Try.func37 kr rfl #[.agg #[.int .i64 a0_0, .slice A0_1 l0_1.length c0_1]] rfl p5 ?_; (with_reducible refine (spec_FirstFailure.calls k a0_0 _ _ l0_1 tD tG tI tF _ ?side1 ?side2 A2.out).mono ?_); (case side1 => exact pC (Kd.C_below HR0_1.out HB.out)); (case side2 => exact HC0_1.out); rintro e w15 ⟨rfl, hb⟩; refine ⟨_, rfl, ?_⟩; replace BKB := aB BKB hb; replace HB := aH hb; (try clear hb)) | ((with_reducible refine gate_dst (N := 3) rfl ?_); (try (refine gate_guard (by rfl) ?_; dsimp only)); refine box_event ?hg (N := 3) ?hd (cs := #[.int .i64 0, .int .i64 0, .int .i64 0]) (t := 50) ?hr ?_; (case hd => rfl); (case hg => rfl); (case hr => first | (go_simp; done) | (go_simp; rfl)); intro gbA hg w16 hbox hb; have BKA := Aside0.mk hbox; have GWA := aZ w hg; have GEA := aZ w hg; replace HB := aH hb; have NBB_A := aL BKB hg; have NBA_B := aG BKB hg; replace BKB := aB BKB hb; clear hb hbox hg; have hnb17 := NBA_B.out; have hnc17 := NBB_A.out; have hcz18_0 : w16.cell? ⟨gbA, 0, none⟩ = some (.int .i64 0) := (blk_cell BKA.out 0).trans rfl; have hcz18_1 : w16.cell? ⟨gbA, 1, none⟩ = some (.int .i64 0) := (blk_cell BKA.out 1).trans rfl; have hcz18_2 : w16.cell? ⟨gbA, 2, none⟩ = some (.int .i64 0) := (blk_cell BKA.out 2).trans rfl; have hfz18_0 := blk_frozen BKA.out 0; have hfz18_1 := blk_frozen BKA.out 1; have hfz18_2 := blk_frozen BKA.out 2; obtain ⟨hcz19_0, hcz19_1, hfz19_0, hfz19_1⟩ := bc2 BKB.out) | ((with_reducible refine gate_callee (f := 38) rfl ?_); refine goesL_ (some 14) rfl rfl Try.func38 kr rfl #[.int .i64 a0_0, .slice A0_1 l0_1.length c0_1] rfl p5 ?_; (with_reducible refine (spec_IsFamily.calls k a0_0 _ _ l0_1 true _ ?side1 ?side2 A3.out).mono ?_); (case side1 => exact Kd.C_below HR0_1.out pB); (case side2 => exact HC0_1.out); rintro e w' ⟨rfl, ⟨nd, rfl⟩⟩; refine ⟨_, rfl, ?_⟩))
   go_ret
   exact ⟨p8, pB⟩
 ·replace c4 := Bool.eq_false_iff.mpr c4
  subst c4
  replace H := iN H
  obtain rfl := Option.some.inj H
  go_enter Try.func25, Try.ntmps25
  go_wp2_with (first | ((with_reducible refine gate_dst (N := 1) rfl ?_); (try (refine gate_guard (by rfl) ?_; dsimp only)); refine box_event ?hg (N := 1) ?hd (cs := #[.int .i64 a0_0, .slice A0_1 l0_1.length c0_1]) (t := 27) ?hr ?_; (case hd => rfl); (case hg => rfl); (case hr => first | (go_simp; done) | (go_simp; rfl)); intro gbB hg w20 hbox hb; have BKB := Aside0.mk hbox; have GWB := aZ w hg; have GEB := aZ w hg; replace HB := aH hb; clear hb hbox hg; obtain ⟨hcz21_0, hcz21_1, hfz21_0, hfz21_1⟩ := bc2 BKB.out) | ((with_reducible refine gate_callee (f := 37) rfl ?_); refine goesL_ (some 7) rfl rfl Try.func37 kr rfl #[.agg #[.int .i64 a0_0, .slice A0_1 l0_1.length c0_1]] rfl p5 ?_; (with_reducible refine (spec_FirstFailure.calls k a0_0 _ _ l0_1 tD tG tI tF _ ?side1 ?side2 A2.out).mono ?_); (case side1 => exact pC (Kd.C_below HR0_1.out HB.out)); (case side2 => exact HC0_1.out); rintro e w22 ⟨rfl, hb⟩; refine ⟨_, rfl, ?_⟩; replace BKB := aB BKB hb; replace HB := aH hb; (try clear hb)) | ((with_reducible refine gate_dst (N := 3) rfl ?_); (try (refine gate_guard (by rfl) ?_; dsimp only)); refine box_event ?hg (N := 3) ?hd (cs := #[.int .i64 0, .int .i64 0, .int .i64 0]) (t := 50) ?hr ?_; (case hd => rfl); (case hg => rfl); (case hr => first | (go_simp; done) | (go_simp; rfl)); intro gbA hg w23 hbox hb; have BKA := Aside0.mk hbox; have GWA := aZ w hg; have GEA := aZ w hg; replace HB := aH hb; have NBB_A := aL BKB hg; have NBA_B := aG BKB hg; replace BKB := aB BKB hb; clear hb hbox hg; have hnb24 := NBA_B.out; have hnc24 := NBB_A.out; have hcz25_0 : w23.cell? ⟨gbA, 0, none⟩ = some (.int .i64 0) := (blk_cell BKA.out 0).trans rfl; have hcz25_1 : w23.cell? ⟨gbA, 1, none⟩ = some (.int .i64 0) := (blk_cell BKA.out 1).trans rfl; have hcz25_2 : w23.cell? ⟨gbA, 2, none⟩ = some (.int .i64 0) := (blk_cell BKA.out 2).trans rfl; have hfz25_0 := blk_frozen BKA.out 0; have hfz25_1 := blk_frozen BKA.out 1; have hfz25_2 := blk_frozen BKA.out 2; obtain ⟨hcz26_0, hcz26_1, hfz26_0, hfz26_1⟩ := bc2 BKB.out) | ((with_reducible refine gate_callee (f := 38) rfl ?_); refine goesL_ (some 14) rfl rfl Try.func38 kr rfl #[.int .i64 a0_0, .slice A0_1 l0_1.length c0_1] rfl p5 ?_; (with_reducible refine (spec_IsFamily.calls k a0_0 _ _ l0_1 false _ ?side1 ?side2 A3.out).mono ?_); (case side1 => exact Kd.C_below HR0_1.out pB); (case side2 => exact HC0_1.out); rintro e w' ⟨rfl, ⟨nd, rfl⟩⟩; refine ⟨_, rfl, ?_⟩))
  go_ret
  exact ⟨p8, pB⟩
end Go.Proofs.Ytbhckhblonkajaa.Q
