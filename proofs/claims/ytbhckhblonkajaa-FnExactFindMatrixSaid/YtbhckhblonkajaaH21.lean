/- Part of a proof: contracts and lemmas that the row's text uses; joined by a program. -/
import Derived.Test.YtbhckhblonkajaaH04
import Derived.Test.YtbhckhblonkajaaH15
import Derived.Test.YtbhckhblonkajaaH17
import Derived.Test.YtbhckhblonkajaaH18
import Derived.Test.YtbhckhblonkajaaH19
import Derived.Test.YtbhckhblonkajaaH20
set_option linter.unusedVariables false
set_option linter.unusedSimpArgs false
namespace Go.Proofs.Ytbhckhblonkajaa.Q
open Go.RowKit Go.Proofs.YtbhckhblonkajaaW.PrintWords Go.Proofs.YtbhckhblonkajaaW.PrintLast Go.Proofs.YtbhckhblonkajaaW.PrintMore
attribute [local go_sem] max2_int min2_int max_two min_two max_three min_three max_four min_four
mutual
def spec_FindMatrix.j0 : Nat → Int → Bool → Int → List Int → Option (Int × Int × Int × List Int × Bool)
 | 0, _, _, _, _ => none
 | k + 1, x1, x23, xB, xA => if x23 = true then (some (0, 0, 0, ([] : List Int), false)) else (if 0 < (xA.length : Int) then ((spec_l26Start.f k xB xA x1 (rd xA 0)).bind fun btC => (spec_FindMatrix.l0 k (rd xA 0) xB xA btC.1 btC.2.1 btC.2.2.1 btC.2.2.2)) else (none))
def spec_FindMatrix.l0 : Nat → Int → Int → List Int → Int → Int → Int → List Int → Option (Int × Int × Int × List Int × Bool)
 | 0, _, _, _, _, _, _, _ => none
 | k + 1, x6, xB, xA, xD, xE, xF, xG => (spec_FromMatrix.f k xD xE xF xG).bind fun btI => ((spec_EqualMatroid.f k btI.1 btI.2 xB xA).bind fun tL => (if tL = true then (some (xD, xE, xF, xG, true)) else ((spec_l26Next.f k xD xE xF xG x6).bind fun btJ => (if btJ.1 = true then (spec_FindMatrix.l0 k x6 xB xA xD xE xF btJ.2) else (some (0, 0, 0, ([] : List Int), false))))))
end
def spec_FindMatrix.f (k : Nat) (a0_0 : Int) (l0_1 : List Int) (a1 : Int) : Option (Int × Int × Int × List Int × Bool) := (spec_IsMatroid.f k a0_0 l0_1).bind fun tA => (if tA = true then (if a0_0 > 6 then (spec_FindMatrix.j0 k a1 true a0_0 l0_1) else (if a1 = 2 then (spec_FindMatrix.j0 k a1 false a0_0 l0_1) else (spec_FindMatrix.j0 k a1 (a1 != 3) a0_0 l0_1))) else (spec_FindMatrix.j0 k a1 true a0_0 l0_1))
set_option maxHeartbeats 8000000 in
set_option maxRecDepth 100000 in
theorem spec_FindMatrix.calls (k : Nat) (a0_0 : Int) (A0_1 : Option Addr) (c0_1 : Nat) (l0_1 : List Int) (a1 : Int) (r1 : Int) (r2 : Int) (r3 : Int) (r4 : List Int) (r5 : Bool) (w : World) (hr0_1 : Kd.C (Kd.int .i64) w A0_1 l0_1.length l0_1) (hc0_1 : l0_1.length ≤ c0_1) (h : spec_FindMatrix.f k a0_0 l0_1 a1 = some (r1, r2, r3, r4, r5)) :
  Calls Try.prog 16 #[.agg #[.int .i64 a0_0, .slice A0_1 l0_1.length c0_1], .int .i64 a1] w fun e w' => ∃ v3_ : Value, e = .returned (.tuple #[.agg #[.int .i64 r1, .int .i64 r2, .int .i64 r3, v3_], .bool r5]) ∧ Kd.R (Kd.int .i64) 3 w' w.heap.size (fun _ => True) v3_ r4 ∧ Below w.heap.size w w' := by
 have hu27 := Try.underlying27
 have hu32 := Try.underlying32
 have HR0_1 := Aside0.mk hr0_1
 have HC0_1 := Aside0.mk hc0_1
 clear hr0_1 hc0_1
 have HB := Aside0.mk (Below.refl w.heap.size w)
 have H : ((spec_IsMatroid.f k a0_0 l0_1).bind fun tY => (if tY = true then (if a0_0 > 6 then (spec_FindMatrix.j0 k a1 true a0_0 l0_1) else (if a1 = 2 then (spec_FindMatrix.j0 k a1 false a0_0 l0_1) else (spec_FindMatrix.j0 k a1 (a1 != 3) a0_0 l0_1))) else (spec_FindMatrix.j0 k a1 true a0_0 l0_1))) = some (r1, r2, r3, r4, r5) := h
 clear h
 have HC3 := Aside0.mk H
 clear H
 go_enter Try.func16, Try.ntmps16
 go_upto_region 1 with (first | (refine bE 2 #[.int .i64 a0_0, .slice A0_1 l0_1.length c0_1] 27 ?_; intro gbA hg w4 hbox hb; have BKA := Aside0.mk hbox; have GWA := aZ w hg; have GEA := aZ w hg; replace HB := aH hb; clear hb hbox hg) | (refine bE 4 #[.int .i64 0, .int .i64 0, .int .i64 0, .slice none 0 0] 32 ?_; intro gbD hg w5 hbox hb; have BKD := Aside0.mk hbox; have GWD := aZ w hg; have GED := aZ w hg; replace HB := aH hb; have NBA_D := aL BKA hg; have NBD_A := aG BKA hg; replace BKA := aB BKA hb; clear hb hbox hg))
 (try simp only [Act.put, List.setIfInBounds_toArray, List.set_cons_zero, List.set_cons_succ])
 go_cut [23] (fun v23 wc => ∃ (kq : Nat) (x23_2 : Bool), v23 = .bool x23_2 ∧ Aside0 (spec_FindMatrix.j0 kq a1 x23_2 a0_0 l0_1 = some (r1, r2, r3, r4, r5)) ∧ Aside0 (kq ≤ k) ∧ Aside0 (wc.heap[gbA]? = some (.cells #[.int .i64 a0_0, (.slice A0_1 l0_1.length c0_1)] 27 (0, 0))) ∧ Aside0 (wc.heap[gbD]? = some (.cells #[.int .i64 0, .int .i64 0, .int .i64 0, (.slice none 0 0)] 32 (0, 0))) ∧ Aside0 (Below w.heap.size w wc))
 case first =>
  have H := HC3.out
  clear HC3
  replace H := bS H
  obtain ⟨tY, A6, H⟩ := H
  by_cases c7 : tY = true
  ·subst c7
   replace H := iP H
   by_cases c8 : a0_0 > 6
   ·rw [if_pos c8] at H
    have c8b0 : decide (6 < a0_0) = true := decide_eq_true c8
    clear c8
    (first | rw [c8b0] | (simp only [i64_w, i32_w]; rw [c8b0]) | skip)
    have H' := Aside0.mk H
    clear H
    have hnb9 := NBA_D.out
    have hnc9 := NBD_A.out
    obtain ⟨hcz10_0, hcz10_1, hfz10_0, hfz10_1⟩ := bc2 BKA.out
    go_wp2_with (first | ((with_reducible refine gate_callee (f := 25) rfl ?_); refine goesL_ (some 9) rfl rfl Try.func25 kr rfl #[.agg #[.int .i64 a0_0, .slice A0_1 l0_1.length c0_1]] rfl p5 ?_; (with_reducible refine (spec_IsMatroid.calls k a0_0 _ _ l0_1 true _ ?side1 ?side2 A6.out).mono ?_); (case side1 => exact pC (Kd.C_below HR0_1.out HB.out)); (case side2 => exact HC0_1.out); rintro e w11 ⟨rfl, hb⟩; refine ⟨_, rfl, ?_⟩; replace BKA := aB BKA hb; replace BKD := aB BKD hb; replace HB := aH hb; (try clear hb); obtain ⟨hcz12_0, hcz12_1, hfz12_0, hfz12_1⟩ := bc2 BKA.out))
    go_meet
    case rel => exact ⟨_, (true), p7, H', ⟨by first | omega | exact Nat.le_refl _⟩, ⟨pK BKA.out⟩, ⟨pK BKD.out⟩, ⟨pB⟩⟩
   ·rw [if_neg c8] at H
    have c8b0 : decide (6 < a0_0) = false := decide_eq_false c8
    clear c8
    (first | rw [c8b0] | (simp only [i64_w, i32_w]; rw [c8b0]) | skip)
    by_cases c13 : a1 = 2
    ·rw [if_pos c13] at H
     have c13b0 : (a1 == 2) = true := beq_iff_eq.mpr c13
     have c13b1 : (a1 != 2) = false := bne_eq_false_iff_eq.mpr c13
     clear c13
     have H' := Aside0.mk H
     clear H
     have hnb14 := NBA_D.out
     have hnc14 := NBD_A.out
     obtain ⟨hcz15_0, hcz15_1, hfz15_0, hfz15_1⟩ := bc2 BKA.out
     go_wp2_with (first | ((with_reducible refine gate_callee (f := 25) rfl ?_); refine goesL_ (some 9) rfl rfl Try.func25 kr rfl #[.agg #[.int .i64 a0_0, .slice A0_1 l0_1.length c0_1]] rfl p5 ?_; (with_reducible refine (spec_IsMatroid.calls k a0_0 _ _ l0_1 true _ ?side1 ?side2 A6.out).mono ?_); (case side1 => exact pC (Kd.C_below HR0_1.out HB.out)); (case side2 => exact HC0_1.out); rintro e w16 ⟨rfl, hb⟩; refine ⟨_, rfl, ?_⟩; replace BKA := aB BKA hb; replace BKD := aB BKD hb; replace HB := aH hb; (try clear hb); obtain ⟨hcz17_0, hcz17_1, hfz17_0, hfz17_1⟩ := bc2 BKA.out))
     go_meet
     case rel => exact ⟨_, (false), p7, H', ⟨by first | omega | exact Nat.le_refl _⟩, ⟨pK BKA.out⟩, ⟨pK BKD.out⟩, ⟨pB⟩⟩
    ·rw [if_neg c13] at H
     have c13b0 : (a1 == 2) = false := beq_eq_false_iff_ne.mpr c13
     have c13b1 : (a1 != 2) = true := bne_iff_ne.mpr c13
     have H' := Aside0.mk H
     clear H
     have hnb18 := NBA_D.out
     have hnc18 := NBD_A.out
     obtain ⟨hcz19_0, hcz19_1, hfz19_0, hfz19_1⟩ := bc2 BKA.out
     go_wp2_with (first | ((with_reducible refine gate_callee (f := 25) rfl ?_); refine goesL_ (some 9) rfl rfl Try.func25 kr rfl #[.agg #[.int .i64 a0_0, .slice A0_1 l0_1.length c0_1]] rfl p5 ?_; (with_reducible refine (spec_IsMatroid.calls k a0_0 _ _ l0_1 true _ ?side1 ?side2 A6.out).mono ?_); (case side1 => exact pC (Kd.C_below HR0_1.out HB.out)); (case side2 => exact HC0_1.out); rintro e w20 ⟨rfl, hb⟩; refine ⟨_, rfl, ?_⟩; replace BKA := aB BKA hb; replace BKD := aB BKD hb; replace HB := aH hb; (try clear hb); obtain ⟨hcz21_0, hcz21_1, hfz21_0, hfz21_1⟩ := bc2 BKA.out))
     go_meet
     case rel => exact ⟨_, ((a1 != 3)), p7, H', ⟨by first | omega | exact Nat.le_refl _⟩, ⟨pK BKA.out⟩, ⟨pK BKD.out⟩, ⟨pB⟩⟩
  ·replace c7 := Bool.eq_false_iff.mpr c7
   subst c7
   replace H := iN H
   have H' := Aside0.mk H
   clear H
   have hnb22 := NBA_D.out
   have hnc22 := NBD_A.out
   obtain ⟨hcz23_0, hcz23_1, hfz23_0, hfz23_1⟩ := bc2 BKA.out
   go_wp2_with (first | ((with_reducible refine gate_callee (f := 25) rfl ?_); refine goesL_ (some 9) rfl rfl Try.func25 kr rfl #[.agg #[.int .i64 a0_0, .slice A0_1 l0_1.length c0_1]] rfl p5 ?_; (with_reducible refine (spec_IsMatroid.calls k a0_0 _ _ l0_1 false _ ?side1 ?side2 A6.out).mono ?_); (case side1 => exact pC (Kd.C_below HR0_1.out HB.out)); (case side2 => exact HC0_1.out); rintro e w24 ⟨rfl, hb⟩; refine ⟨_, rfl, ?_⟩; replace BKA := aB BKA hb; replace BKD := aB BKD hb; replace HB := aH hb; (try clear hb)))
   go_meet
   case rel => exact ⟨_, (true), p7, H', ⟨by first | omega | exact Nat.le_refl _⟩, ⟨pK BKA.out⟩, ⟨pK BKD.out⟩, ⟨pB⟩⟩
 case rest =>
  clear HC3
  obtain ⟨kq, x23_2, rfl, HA, HJ2, BKA, BKD, HB⟩ := hcut
  cases kq with
  | zero => exact absurd HA.out (by simp [spec_FindMatrix.j0])
  | succ kj2 =>
   have H := HA.out
   clear HA
   simp only [spec_FindMatrix.j0] at H
   by_cases c25 : x23_2 = true
   ·subst c25
    replace H := iP H
    simp only [Option.some.injEq, Prod.mk.injEq] at H
    obtain ⟨rfl, rfl, rfl, rfl, rfl⟩ := H
    have hnb26 := NBD_A.out
    have hnc26 := NBA_D.out
    obtain ⟨hcz27_0, hcz27_1, hcz27_2, hcz27_3, hfz27_0, hfz27_1, hfz27_2, hfz27_3⟩ := bc4 BKD.out
    go_wp2
    refine bodyPost_ret (results_ct rfl _ _ gbD 32 #[.int .i64 0, .int .i64 0, .int .i64 0, .slice none 0 0] (0, 0) _ rfl (by (with_reducible repeat (first | refine blk_drewN ?_ _ | refine blk_drew ?_ | refine blk_alloc ?_ _)); refine blk_put (cs := #[.int .i64 0, .int .i64 0, .int .i64 0, .slice none 0 0]) ?_ 3 _ rfl; (with_reducible repeat (first | refine blk_drewN ?_ _ | refine blk_drew ?_ | refine blk_alloc ?_ _)); refine blk_put (cs := #[.int .i64 0, .int .i64 0, .int .i64 0, .slice none 0 0]) ?_ 2 _ rfl; (with_reducible repeat (first | refine blk_drewN ?_ _ | refine blk_drew ?_ | refine blk_alloc ?_ _)); refine blk_put (cs := #[.int .i64 0, .int .i64 0, .int .i64 0, .slice none 0 0]) ?_ 1 _ rfl; (with_reducible repeat (first | refine blk_drewN ?_ _ | refine blk_drew ?_ | refine blk_alloc ?_ _)); refine blk_put (cs := #[.int .i64 0, .int .i64 0, .int .i64 0, .slice none 0 0]) ?_ 0 _ rfl; exact pK BKD.out) Try.underlying32 rfl kr) rfl ?_
    exact ⟨_, p8, p9, pB⟩
   ·replace c25 := Bool.eq_false_iff.mpr c25
    subst c25
    replace H := iN H
    by_cases c28 : 0 < (l0_1.length : Int)
    ·rw [if_pos c28] at H
     have c28b0 : decide (0 < (l0_1.length : Int)) = true := decide_eq_true c28
     have c28b1 : decide (0 < l0_1.length) = true := decide_eq_true (by omega)
     clear c28
     replace H := Option.bind_eq_some_iff.mp H
     obtain ⟨⟨tF, tG, tJ, tT⟩, AAa, H⟩ := H
     replace H : (spec_FindMatrix.l0 kj2 (rd l0_1 0) a0_0 l0_1 tF tG tJ tT) = some (r1, r2, r3, r4, r5) := H
     have A29 := Aside0.mk AAa
     clear AAa
     have H' := Aside0.mk H
     clear H
     have hnb30 := NBA_D.out
     have hnc30 := NBD_A.out
     obtain ⟨hcz31_0, hcz31_1, hfz31_0, hfz31_1⟩ := bc2 BKA.out
     have pI : 0 ≤ (0 : Int) := (by omega)
     have qI : 0 < (l0_1.length : Int) := oD
     obtain ⟨adI, eI, hxI_0⟩ := Kd.at_int HR0_1.out 0 pI qI
     cases eI
     have qiI : (0 < l0_1.length) = True := eq_true (by omega)
     (try rw [show ((0 : Int)).toNat = 0 from rfl] at hxI_0)
     (try rw [Addr.add_zero'] at hxI_0)
     replace hxI_0 := (HB.out.cell (World.block_lt_of_cell? w _ hxI_0)).trans hxI_0
     replace pI := eq_true pI
     replace qI := eq_true qI
     go_wp2_with (first | ((with_reducible refine gate_callee (f := 26) rfl ?_); refine goesL_ (some 32) rfl rfl Try.func26 kr rfl #[.agg #[.int .i64 a0_0, .slice (some adI) l0_1.length c0_1], .int .i64 a1, .int .i64 (rd l0_1 0)] rfl p5 ?_; (with_reducible refine (spec_l26Start.calls kj2 a0_0 _ _ l0_1 a1 (rd l0_1 0) tF tG tJ tT _ ?side1 ?side2 A29.out).mono ?_); (case side1 => exact pC (Kd.C_below HR0_1.out HB.out)); (case side2 => exact HC0_1.out); rintro e w32 ⟨vAe, rfl, ho0, hb⟩; refine ⟨_, rfl, ?_⟩; have HOW := Aside0.mk (Kd.R_lower ho0 (below_size pB)); replace BKA := aB BKA hb; replace BKD := aB BKD hb; replace HB := aH hb; (try clear hb); (try clear ho0)) | (refine bE 7 #[.int .i64 0, .int .i64 0, .int .i64 0, .slice none 0 0] 32 ?_; intro gbB hg w33 hbox hb; replace HOW := aR HOW hb; have BKB := Aside0.mk hbox; have GWB := aZ w hg; have GEB := aZ w hg; replace HB := aH hb; have NBA_B := aL BKA hg; have NBB_A := aG BKA hg; replace BKA := aB BKA hb; have NBD_B := aL BKD hg; have NBB_D := aG BKD hg; replace BKD := aB BKD hb; clear hb hbox hg; have hnb34 := NBB_A.out; have hnc34 := NBA_B.out; have hnb35 := NBB_D.out; have hnc35 := NBD_B.out; obtain ⟨hcz36_0, hcz36_1, hcz36_2, hcz36_3, hfz36_0, hfz36_1, hfz36_2, hfz36_3⟩ := bc4 BKB.out; obtain ⟨Ao37, co37, eo37⟩ := Kd.R_slice HOW.out; subst eo37))
     go_loopg [] kj2 (fun kq w' => ∃ (xU_2 : Int) (xQ_2 : Int) (xP_2 : Int) (xE_2 : List Int) (uE : Value), Aside0 (spec_FindMatrix.l0 kq (rd l0_1 0) a0_0 l0_1 tF tG tJ xE_2 = some (r1, r2, r3, r4, r5)) ∧ Aside0 (kq ≤ kj2) ∧ Aside0 (Kd.R (Kd.int .i64) 3 w' w.heap.size (fun _ => True) uE xE_2) ∧ Aside0 (w'.heap[gbA]? = some (.cells #[.int .i64 a0_0, (.slice (some adI) l0_1.length c0_1)] 27 (0, 0))) ∧ Aside0 (w'.heap[gbD]? = some (.cells #[.int .i64 xU_2, .int .i64 xQ_2, .int .i64 xP_2, (.slice none 0 0)] 32 (0, 0))) ∧ Aside0 (w'.heap[gbB]? = some (.cells #[.int .i64 tF, .int .i64 tG, .int .i64 tJ, uE] 32 (0, 0))) ∧ Aside0 (Below w.heap.size w w'))
     case atStart => exact ⟨(0), (0), (0), (tT), (.slice Ao37 tT.length co37), H', ⟨Nat.le_refl _⟩, ⟨by (with_reducible repeat (first | apply Kd.R_alloc | apply Kd.R_drewN | apply Kd.R_drew)); exact Kd.R_mono (Kd.R_far (p := ⟨gbB, 3, none⟩) (Kd.R_far (p := ⟨gbB, 2, none⟩) (Kd.R_far (p := ⟨gbB, 1, none⟩) (Kd.R_far (p := ⟨gbB, 0, none⟩) (Kd.R_types HOW.out BKB.out (by decide)) (fun _ hk => hk.2) (.int .i64 tF)) (fun _ hk => hk.2) (.int .i64 tG)) (fun _ hk => hk.2) (.int .i64 tJ)) (fun _ hk => hk.2) (.slice Ao37 tT.length co37)) (fun _ hk => trivial)⟩, ⟨qK BKA.out⟩, ⟨qK BKD.out⟩, ⟨by (with_reducible repeat (first | refine blk_drewN ?_ _ | refine blk_drew ?_ | refine blk_alloc ?_ _)); refine blk_put (cs := #[.int .i64 tF, .int .i64 tG, .int .i64 tJ, .slice none 0 0]) ?_ 3 _ rfl; (with_reducible repeat (first | refine blk_drewN ?_ _ | refine blk_drew ?_ | refine blk_alloc ?_ _)); refine blk_put (cs := #[.int .i64 tF, .int .i64 tG, .int .i64 0, .slice none 0 0]) ?_ 2 _ rfl; (with_reducible repeat (first | refine blk_drewN ?_ _ | refine blk_drew ?_ | refine blk_alloc ?_ _)); refine blk_put (cs := #[.int .i64 tF, .int .i64 0, .int .i64 0, .slice none 0 0]) ?_ 1 _ rfl; (with_reducible repeat (first | refine blk_drewN ?_ _ | refine blk_drew ?_ | refine blk_alloc ?_ _)); refine blk_put (cs := #[.int .i64 0, .int .i64 0, .int .i64 0, .slice none 0 0]) ?_ 0 _ rfl; (with_reducible repeat (first | refine blk_drewN ?_ _ | refine blk_drew ?_ | refine blk_alloc ?_ _)); exact BKB.out⟩, ⟨pB⟩⟩
     case round =>
      clear H'
      try clear c25
      try clear c28
      try clear c28b0
      try clear c28b1
      try clear hcz31_0
      try clear hcz31_1
      try clear hcz36_0
      try clear hcz36_1
      try clear hcz36_2
      try clear hcz36_3
      try clear hfz31_0
      try clear hfz31_1
      try clear hfz36_0
      try clear hfz36_1
      try clear hfz36_2
      try clear hfz36_3
      try clear hxI_0
      try clear pI
      try clear qI
      obtain ⟨xU_2, xQ_2, xP_2, xE_2, uE, HA, HK2, HO_E, BKA, BKD, BKB, HB⟩ := hrel
      cases gk with
      | zero => exact absurd HA.out (by simp [spec_FindMatrix.l0])
      | succ k2 =>
       have H := HA.out
       clear HA
       simp only [spec_FindMatrix.l0] at H
       replace H := Option.bind_eq_some_iff.mp H
       obtain ⟨⟨tM, tO⟩, AAb, H⟩ := H
       replace H : ((spec_EqualMatroid.f k2 tM tO a0_0 l0_1).bind fun tZ => (if tZ = true then (some (tF, tG, tJ, xE_2, true)) else ((spec_l26Next.f k2 tF tG tJ xE_2 (rd l0_1 0)).bind fun btV => (if btV.1 = true then (spec_FindMatrix.l0 k2 (rd l0_1 0) a0_0 l0_1 tF tG tJ btV.2) else (some (0, 0, 0, ([] : List Int), false)))))) = some (r1, r2, r3, r4, r5) := H
       have A38 := Aside0.mk AAb
       clear AAb
       replace H := bS H
       obtain ⟨tZ, A39, H⟩ := H
       by_cases c40 : tZ = true
       ·subst c40
        replace H := iP H
        simp only [Option.some.injEq, Prod.mk.injEq] at H
        obtain ⟨rfl, rfl, rfl, rfl, rfl⟩ := H
        try go_wp2
        replace HO_E := Aside0.mk (Kd.R_drew HO_E.out)
        replace BKA := Aside0.mk (blk_drew BKA.out)
        replace BKD := Aside0.mk (blk_drew BKD.out)
        replace BKB := Aside0.mk (blk_drew BKB.out)
        replace HB := Aside0.mk (below_drew1 HB.out)
        obtain ⟨Ao42, co42, eo42⟩ := Kd.R_slice HO_E.out
        (first | subst eo42 | (injection eo42 with f1_ f2_ f3_; have f4_ := f1_.symm; have f5_ := f3_.symm; clear f1_ f2_ f3_; subst f4_; subst f5_))
        refine start_ (n := 4) (S := fun w' => w'.cell? ⟨gbB, 0, none⟩ = some (.int .i64 tF) ∧ w'.cell? ⟨gbB, 1, none⟩ = some (.int .i64 tG) ∧ w'.cell? ⟨gbB, 2, none⟩ = some (.int .i64 tJ) ∧ w'.cell? ⟨gbB, 3, none⟩ = some (.slice Ao42 xE_2.length co42) ∧ w'.cell? ⟨gbA, 0, none⟩ = some (.int .i64 a0_0) ∧ w'.cell? ⟨gbA, 1, none⟩ = some (.slice (some adI) l0_1.length c0_1)) (ds := []) #[false, false, false, false] kr rfl rfl ⟨(blk_cell BKB.out 0).trans rfl, (blk_cell BKB.out 1).trans rfl, (blk_cell BKB.out 2).trans rfl, (blk_cell BKB.out 3).trans rfl, (blk_cell BKA.out 0).trans rfl, (blk_cell BKA.out 1).trans rfl⟩ (fun hHeld => ?_)
        generalize wr.drew = w41 at HO_E BKA BKD BKB HB hHeld ⊢
        refine tA6 0 33 kr hHeld ?_
        refine tA6 2 35 kr hHeld ?_
        refine one_ (i := 1) (N := some 34) #[true, true, true, false] rfl rfl kr (by decide) (fun K hK => ?_)
        refine goes_ Try.func28 kr rfl #[.agg #[.int .i64 tF, .int .i64 tG, .int .i64 tJ, .slice Ao42 xE_2.length co42]] (by rfl) rfl rfl p5 ?_
        with_reducible refine (spec_FromMatrix.calls k2 tF tG tJ _ _ xE_2 tM tO _ ?side1 ?side2 A38.out).mono ?_
        (case side1 => repeat (first | exact (Kd.R_reads' HO_E.out).2.2 | (with_reducible refine Kd.C_alloc ?_ _) | (with_reducible refine Kd.C_drewN ?_ _) | (with_reducible refine Kd.C_drew ?_)))
        (case side2 => exact (Kd.R_reads' HO_E.out).2.1)
        rintro e w43 ⟨vAc, rfl, ho0, hb⟩
        refine ⟨_, rfl, ?_⟩
        have HOL := Aside0.mk (Kd.R_lower (Kd.R_new' ho0 (Kd.R_lt (pR HO_E.out))) (below_size pB))
        replace HO_E := Aside0.mk (Kd.R_elder' (pR HO_E.out) (Kd.R_base ho0) hb)
        replace BKA := aB BKA hb
        replace BKD := aB BKD hb
        replace BKB := aB BKB hb
        replace HB := aH hb
        (try clear hb)
        (try clear hb2)
        (try clear hk)
        (try clear hi)
        (try clear ho0)
        obtain ⟨Ao44, co44, eo44⟩ := Kd.R_slice HOL.out
        (first | subst eo44 | (injection eo44 with f1_ f2_ f3_; have f4_ := f1_.symm; have f5_ := f3_.symm; clear f1_ f2_ f3_; subst f4_; subst f5_))
        refine hK.out _ _ ⟨(blk_cell BKB.out 0).trans rfl, (blk_cell BKB.out 1).trans rfl, (blk_cell BKB.out 2).trans rfl, (blk_cell BKB.out 3).trans rfl, (blk_cell BKA.out 0).trans rfl, (blk_cell BKA.out 1).trans rfl⟩ (fun hHeld => ?_)
        clear hK K
        refine norm_ (a' := ?_) ?_ ?_
        rotate_left
        ·show Act.put _ (some 34) _ = _
         simp only [Act.put, List.setIfInBounds_toArray, List.set_cons_zero, List.set_cons_succ, i64_w, i32_w]
         rfl
        refine one_ (i := 3) (N := some 36) #[true, true, true, true] rfl rfl kr (by decide) (fun K hK => ?_)
        refine goes_ Try.func27 kr rfl #[.agg #[.int .i64 tM, .slice Ao44 tO.length co44], .agg #[.int .i64 a0_0, .slice (some adI) l0_1.length c0_1]] (by rfl) rfl rfl p5 ?_
        with_reducible refine (spec_EqualMatroid.calls k2 tM _ _ tO a0_0 _ _ l0_1 true _ ?side1 ?side2 ?side3 ?side4 A39.out).mono ?_
        (case side1 => repeat (first | exact (Kd.R_reads' HOL.out).2.2 | (with_reducible refine Kd.C_alloc ?_ _) | (with_reducible refine Kd.C_drewN ?_ _) | (with_reducible refine Kd.C_drew ?_)))
        (case side2 => exact (Kd.R_reads' HOL.out).2.1)
        (case side3 => exact pC (Kd.C_below HR0_1.out HB.out))
        (case side4 => exact HC0_1.out)
        rintro e w45 ⟨rfl, hb⟩
        refine ⟨_, rfl, ?_⟩
        replace HO_E := aR HO_E hb
        replace HOL := aR HOL hb
        replace BKA := aB BKA hb
        replace BKD := aB BKD hb
        replace BKB := aB BKB hb
        replace HB := aH hb
        (try clear hb)
        (try clear hb2)
        (try clear hk)
        (try clear hi)
        refine hK.out _ _ ⟨(blk_cell BKB.out 0).trans rfl, (blk_cell BKB.out 1).trans rfl, (blk_cell BKB.out 2).trans rfl, (blk_cell BKB.out 3).trans rfl, (blk_cell BKA.out 0).trans rfl, (blk_cell BKA.out 1).trans rfl⟩ (fun hHeld => ?_)
        clear hK K
        refine norm_ (a' := ?_) ?_ ?_
        rotate_left
        ·show Act.put _ (some 36) _ = _
         simp only [Act.put, List.setIfInBounds_toArray, List.set_cons_zero, List.set_cons_succ, i64_w, i32_w]
         rfl
        refine done_ kr ?_
        have hnb46 := NBB_A.out
        have hnc46 := NBA_B.out
        have hnb47 := NBB_D.out
        have hnc47 := NBD_B.out
        obtain ⟨hcz48_0, hcz48_1, hcz48_2, hcz48_3, hfz48_0, hfz48_1, hfz48_2, hfz48_3⟩ := bc4 BKB.out
        have hnb49 := NBD_A.out
        have hnc49 := NBA_D.out
        obtain ⟨hcz50_0, hcz50_1, hcz50_2, hcz50_3, hfz50_0, hfz50_1, hfz50_2, hfz50_3⟩ := bc4 BKD.out
        try go_wp2
        refine bodyPost_ret (results_ct rfl _ _ gbD 32 #[.int .i64 tF, .int .i64 tG, .int .i64 tJ, .slice Ao42 xE_2.length co42] (0, 0) _ rfl (by (with_reducible repeat (first | refine blk_drewN ?_ _ | refine blk_drew ?_ | refine blk_alloc ?_ _)); refine blk_put (cs := #[.int .i64 tF, .int .i64 tG, .int .i64 tJ, .slice none 0 0]) ?_ 3 _ rfl; (with_reducible repeat (first | refine blk_drewN ?_ _ | refine blk_drew ?_ | refine blk_alloc ?_ _)); refine blk_put (cs := #[.int .i64 tF, .int .i64 tG, .int .i64 xP_2, .slice none 0 0]) ?_ 2 _ rfl; (with_reducible repeat (first | refine blk_drewN ?_ _ | refine blk_drew ?_ | refine blk_alloc ?_ _)); refine blk_put (cs := #[.int .i64 tF, .int .i64 xQ_2, .int .i64 xP_2, .slice none 0 0]) ?_ 1 _ rfl; (with_reducible repeat (first | refine blk_drewN ?_ _ | refine blk_drew ?_ | refine blk_alloc ?_ _)); refine blk_put (cs := #[.int .i64 xU_2, .int .i64 xQ_2, .int .i64 xP_2, .slice none 0 0]) ?_ 0 _ rfl; exact pK BKD.out) Try.underlying32 rfl kr) rfl ?_
        exact ⟨_, p8, by (with_reducible repeat (first | apply Kd.R_alloc | apply Kd.R_drewN | apply Kd.R_drew)); exact Kd.R_mono (Kd.R_far (p := ⟨gbD, 3, none⟩) (Kd.R_far (p := ⟨gbD, 2, none⟩) (Kd.R_far (p := ⟨gbD, 1, none⟩) (Kd.R_far (p := ⟨gbD, 0, none⟩) (Kd.R_types HO_E.out BKD.out (by decide)) (fun _ hk => hk.2) (.int .i64 tF)) (fun _ hk => hk.2) (.int .i64 tG)) (fun _ hk => hk.2) (.int .i64 tJ)) (fun _ hk => hk.2) (.slice Ao42 xE_2.length co42)) (fun _ hk => trivial), pB⟩
       ·replace c40 := Bool.eq_false_iff.mpr c40
        subst c40
        replace H := iN H
        replace H := Option.bind_eq_some_iff.mp H
        obtain ⟨⟨tV, tX⟩, AAd, H⟩ := H
        replace H : (if tV = true then (spec_FindMatrix.l0 k2 (rd l0_1 0) a0_0 l0_1 tF tG tJ tX) else (some (0, 0, 0, ([] : List Int), false))) = some (r1, r2, r3, r4, r5) := H
        have A51 := Aside0.mk AAd
        clear AAd
        by_cases c52 : tV = true
        ·subst c52
         replace H := iP H
         have H' := Aside0.mk H
         clear H
         try go_wp2
         replace HO_E := Aside0.mk (Kd.R_drew HO_E.out)
         replace BKA := Aside0.mk (blk_drew BKA.out)
         replace BKD := Aside0.mk (blk_drew BKD.out)
         replace BKB := Aside0.mk (blk_drew BKB.out)
         replace HB := Aside0.mk (below_drew1 HB.out)
         obtain ⟨Ao54, co54, eo54⟩ := Kd.R_slice HO_E.out
         (first | subst eo54 | (injection eo54 with f1_ f2_ f3_; have f4_ := f1_.symm; have f5_ := f3_.symm; clear f1_ f2_ f3_; subst f4_; subst f5_))
         refine start_ (n := 4) (S := fun w' => w'.cell? ⟨gbB, 0, none⟩ = some (.int .i64 tF) ∧ w'.cell? ⟨gbB, 1, none⟩ = some (.int .i64 tG) ∧ w'.cell? ⟨gbB, 2, none⟩ = some (.int .i64 tJ) ∧ w'.cell? ⟨gbB, 3, none⟩ = some (.slice Ao54 xE_2.length co54) ∧ w'.cell? ⟨gbA, 0, none⟩ = some (.int .i64 a0_0) ∧ w'.cell? ⟨gbA, 1, none⟩ = some (.slice (some adI) l0_1.length c0_1)) (ds := []) #[false, false, false, false] kr rfl rfl ⟨(blk_cell BKB.out 0).trans rfl, (blk_cell BKB.out 1).trans rfl, (blk_cell BKB.out 2).trans rfl, (blk_cell BKB.out 3).trans rfl, (blk_cell BKA.out 0).trans rfl, (blk_cell BKA.out 1).trans rfl⟩ (fun hHeld => ?_)
         generalize wr.drew = w53 at HO_E BKA BKD BKB HB hHeld ⊢
         refine tA6 0 33 kr hHeld ?_
         refine tA6 2 35 kr hHeld ?_
         refine one_ (i := 1) (N := some 34) #[true, true, true, false] rfl rfl kr (by decide) (fun K hK => ?_)
         refine goes_ Try.func28 kr rfl #[.agg #[.int .i64 tF, .int .i64 tG, .int .i64 tJ, .slice Ao54 xE_2.length co54]] (by rfl) rfl rfl p5 ?_
         with_reducible refine (spec_FromMatrix.calls k2 tF tG tJ _ _ xE_2 tM tO _ ?side1 ?side2 A38.out).mono ?_
         (case side1 => repeat (first | exact (Kd.R_reads' HO_E.out).2.2 | (with_reducible refine Kd.C_alloc ?_ _) | (with_reducible refine Kd.C_drewN ?_ _) | (with_reducible refine Kd.C_drew ?_)))
         (case side2 => exact (Kd.R_reads' HO_E.out).2.1)
         rintro e w55 ⟨vAc, rfl, ho0, hb⟩
         refine ⟨_, rfl, ?_⟩
         have HOL := Aside0.mk (Kd.R_lower (Kd.R_new' ho0 (Kd.R_lt (pR HO_E.out))) (below_size pB))
         replace HO_E := Aside0.mk (Kd.R_elder' (pR HO_E.out) (Kd.R_base ho0) hb)
         replace BKA := aB BKA hb
         replace BKD := aB BKD hb
         replace BKB := aB BKB hb
         replace HB := aH hb
         (try clear hb)
         (try clear hb2)
         (try clear hk)
         (try clear hi)
         (try clear ho0)
         obtain ⟨Ao56, co56, eo56⟩ := Kd.R_slice HOL.out
         (first | subst eo56 | (injection eo56 with f1_ f2_ f3_; have f4_ := f1_.symm; have f5_ := f3_.symm; clear f1_ f2_ f3_; subst f4_; subst f5_))
         refine hK.out _ _ ⟨(blk_cell BKB.out 0).trans rfl, (blk_cell BKB.out 1).trans rfl, (blk_cell BKB.out 2).trans rfl, (blk_cell BKB.out 3).trans rfl, (blk_cell BKA.out 0).trans rfl, (blk_cell BKA.out 1).trans rfl⟩ (fun hHeld => ?_)
         clear hK K
         refine norm_ (a' := ?_) ?_ ?_
         rotate_left
         ·show Act.put _ (some 34) _ = _
          simp only [Act.put, List.setIfInBounds_toArray, List.set_cons_zero, List.set_cons_succ, i64_w, i32_w]
          rfl
         refine one_ (i := 3) (N := some 36) #[true, true, true, true] rfl rfl kr (by decide) (fun K hK => ?_)
         refine goes_ Try.func27 kr rfl #[.agg #[.int .i64 tM, .slice Ao56 tO.length co56], .agg #[.int .i64 a0_0, .slice (some adI) l0_1.length c0_1]] (by rfl) rfl rfl p5 ?_
         with_reducible refine (spec_EqualMatroid.calls k2 tM _ _ tO a0_0 _ _ l0_1 false _ ?side1 ?side2 ?side3 ?side4 A39.out).mono ?_
         (case side1 => repeat (first | exact (Kd.R_reads' HOL.out).2.2 | (with_reducible refine Kd.C_alloc ?_ _) | (with_reducible refine Kd.C_drewN ?_ _) | (with_reducible refine Kd.C_drew ?_)))
         (case side2 => exact (Kd.R_reads' HOL.out).2.1)
         (case side3 => exact pC (Kd.C_below HR0_1.out HB.out))
         (case side4 => exact HC0_1.out)
         rintro e w57 ⟨rfl, hb⟩
         refine ⟨_, rfl, ?_⟩
         replace HO_E := aR HO_E hb
         replace HOL := aR HOL hb
         replace BKA := aB BKA hb
         replace BKD := aB BKD hb
         replace BKB := aB BKB hb
         replace HB := aH hb
         (try clear hb)
         (try clear hb2)
         (try clear hk)
         (try clear hi)
         refine hK.out _ _ ⟨(blk_cell BKB.out 0).trans rfl, (blk_cell BKB.out 1).trans rfl, (blk_cell BKB.out 2).trans rfl, (blk_cell BKB.out 3).trans rfl, (blk_cell BKA.out 0).trans rfl, (blk_cell BKA.out 1).trans rfl⟩ (fun hHeld => ?_)
         clear hK K
         refine norm_ (a' := ?_) ?_ ?_
         rotate_left
         ·show Act.put _ (some 36) _ = _
          simp only [Act.put, List.setIfInBounds_toArray, List.set_cons_zero, List.set_cons_succ, i64_w, i32_w]
          rfl
         refine done_ kr ?_
         have hnb58 := NBB_A.out
         have hnc58 := NBA_B.out
         have hnb59 := NBB_D.out
         have hnc59 := NBD_B.out
         obtain ⟨hcz60_0, hcz60_1, hcz60_2, hcz60_3, hfz60_0, hfz60_1, hfz60_2, hfz60_3⟩ := bc4 BKB.out
         try go_wp2_with (first | ((with_reducible refine gate_callee (f := 29) rfl ?_); refine goesL_ (some 40) rfl rfl Try.func29 kr rfl #[.agg #[.int .i64 tF, .int .i64 tG, .int .i64 tJ, .slice Ao54 xE_2.length co54], .int .i64 (rd l0_1 0)] rfl p5 ?_; (with_reducible refine (spec_l26Next.calls k2 tF tG tJ (fun k_ => some k_ = (.slice Ao54 xE_2.length co54 : Value).ownBlock) (.slice Ao54 xE_2.length co54) xE_2 (rd l0_1 0) true tX w _ ?side1 ?side2 A51.out).mono ?_); (case side1 => repeat (first | (with_reducible first | exact HB.out | apply below_alloc | apply pw_below_drewN | apply below_drew1 | refine below_set ?_ GEA.out | refine below_set ?_ GED.out | refine below_set ?_ GEB.out) | exact HB.out)); (case side2 => exact Kd.R_tight rfl HO_E.out); rintro e w61 ⟨rfl, hy0, hb, hkp⟩; refine ⟨_, rfl, ?_⟩; replace BKA := Aside0.mk (blk_kept (pK BKA.out) hkp (fun hs_ => (fun e_ => (Kd.R_ne HO_E.out BKA.out (by decide)) e_) hs_)); replace BKD := Aside0.mk (blk_kept (pK BKD.out) hkp (fun hs_ => (fun e_ => (Kd.R_ne HO_E.out BKD.out (by decide)) e_) hs_)); replace BKB := Aside0.mk (blk_kept (pK BKB.out) hkp (fun hs_ => (fun e_ => (Kd.R_ne HO_E.out BKB.out (by decide)) e_) hs_)); replace HO_E := Aside0.mk (Kd.R_reok rfl hy0 (fun k_ e_ => HO_E.out.1 k_ e_)); replace HOL := Aside0.mk (Kd.R_mono (ok' := fun k_ => some k_ ≠ (.slice Ao54 xE_2.length co54 : Value).ownBlock) (Kd.R_keptB (HOL.out) hkp (fun k_ hk_ hs_ => (hk_.2) hs_)) (fun k_ hk_ => hk_.1.2)); replace HB := Aside0.mk (hb); (try clear hb); (try clear hkp); (try clear hy0)))
         go_roundg k2
         case measure => have := HJ2.out; have := HK2.out; omega
         case rel => exact ⟨(xU_2), (xQ_2), (xP_2), (tX), (.slice Ao54 xE_2.length co54), H', ⟨by have := HJ2.out; have := HK2.out; omega⟩, ⟨by (with_reducible repeat (first | apply Kd.R_alloc | apply Kd.R_drewN | apply Kd.R_drew)); exact Kd.R_mono HO_E.out (fun _ hk => trivial)⟩, ⟨pK BKA.out⟩, ⟨pK BKD.out⟩, ⟨pK BKB.out⟩, ⟨pB⟩⟩
        ·replace c52 := Bool.eq_false_iff.mpr c52
         subst c52
         replace H := iN H
         simp only [Option.some.injEq, Prod.mk.injEq] at H
         obtain ⟨rfl, rfl, rfl, rfl, rfl⟩ := H
         try go_wp2
         replace HO_E := Aside0.mk (Kd.R_drew HO_E.out)
         replace BKA := Aside0.mk (blk_drew BKA.out)
         replace BKD := Aside0.mk (blk_drew BKD.out)
         replace BKB := Aside0.mk (blk_drew BKB.out)
         replace HB := Aside0.mk (below_drew1 HB.out)
         obtain ⟨Ao63, co63, eo63⟩ := Kd.R_slice HO_E.out
         (first | subst eo63 | (injection eo63 with f1_ f2_ f3_; have f4_ := f1_.symm; have f5_ := f3_.symm; clear f1_ f2_ f3_; subst f4_; subst f5_))
         refine start_ (n := 4) (S := fun w' => w'.cell? ⟨gbB, 0, none⟩ = some (.int .i64 tF) ∧ w'.cell? ⟨gbB, 1, none⟩ = some (.int .i64 tG) ∧ w'.cell? ⟨gbB, 2, none⟩ = some (.int .i64 tJ) ∧ w'.cell? ⟨gbB, 3, none⟩ = some (.slice Ao63 xE_2.length co63) ∧ w'.cell? ⟨gbA, 0, none⟩ = some (.int .i64 a0_0) ∧ w'.cell? ⟨gbA, 1, none⟩ = some (.slice (some adI) l0_1.length c0_1)) (ds := []) #[false, false, false, false] kr rfl rfl ⟨(blk_cell BKB.out 0).trans rfl, (blk_cell BKB.out 1).trans rfl, (blk_cell BKB.out 2).trans rfl, (blk_cell BKB.out 3).trans rfl, (blk_cell BKA.out 0).trans rfl, (blk_cell BKA.out 1).trans rfl⟩ (fun hHeld => ?_)
         generalize wr.drew = w62 at HO_E BKA BKD BKB HB hHeld ⊢
         refine tA6 0 33 kr hHeld ?_
         refine tA6 2 35 kr hHeld ?_
         refine one_ (i := 1) (N := some 34) #[true, true, true, false] rfl rfl kr (by decide) (fun K hK => ?_)
         refine goes_ Try.func28 kr rfl #[.agg #[.int .i64 tF, .int .i64 tG, .int .i64 tJ, .slice Ao63 xE_2.length co63]] (by rfl) rfl rfl p5 ?_
         with_reducible refine (spec_FromMatrix.calls k2 tF tG tJ _ _ xE_2 tM tO _ ?side1 ?side2 A38.out).mono ?_
         (case side1 => repeat (first | exact (Kd.R_reads' HO_E.out).2.2 | (with_reducible refine Kd.C_alloc ?_ _) | (with_reducible refine Kd.C_drewN ?_ _) | (with_reducible refine Kd.C_drew ?_)))
         (case side2 => exact (Kd.R_reads' HO_E.out).2.1)
         rintro e w64 ⟨vAc, rfl, ho0, hb⟩
         refine ⟨_, rfl, ?_⟩
         have HOL := Aside0.mk (Kd.R_lower (Kd.R_new' ho0 (Kd.R_lt (pR HO_E.out))) (below_size pB))
         replace HO_E := Aside0.mk (Kd.R_elder' (pR HO_E.out) (Kd.R_base ho0) hb)
         replace BKA := aB BKA hb
         replace BKD := aB BKD hb
         replace BKB := aB BKB hb
         replace HB := aH hb
         (try clear hb)
         (try clear hb2)
         (try clear hk)
         (try clear hi)
         (try clear ho0)
         obtain ⟨Ao65, co65, eo65⟩ := Kd.R_slice HOL.out
         (first | subst eo65 | (injection eo65 with f1_ f2_ f3_; have f4_ := f1_.symm; have f5_ := f3_.symm; clear f1_ f2_ f3_; subst f4_; subst f5_))
         refine hK.out _ _ ⟨(blk_cell BKB.out 0).trans rfl, (blk_cell BKB.out 1).trans rfl, (blk_cell BKB.out 2).trans rfl, (blk_cell BKB.out 3).trans rfl, (blk_cell BKA.out 0).trans rfl, (blk_cell BKA.out 1).trans rfl⟩ (fun hHeld => ?_)
         clear hK K
         refine norm_ (a' := ?_) ?_ ?_
         rotate_left
         ·show Act.put _ (some 34) _ = _
          simp only [Act.put, List.setIfInBounds_toArray, List.set_cons_zero, List.set_cons_succ, i64_w, i32_w]
          rfl
         refine one_ (i := 3) (N := some 36) #[true, true, true, true] rfl rfl kr (by decide) (fun K hK => ?_)
         refine goes_ Try.func27 kr rfl #[.agg #[.int .i64 tM, .slice Ao65 tO.length co65], .agg #[.int .i64 a0_0, .slice (some adI) l0_1.length c0_1]] (by rfl) rfl rfl p5 ?_
         with_reducible refine (spec_EqualMatroid.calls k2 tM _ _ tO a0_0 _ _ l0_1 false _ ?side1 ?side2 ?side3 ?side4 A39.out).mono ?_
         (case side1 => repeat (first | exact (Kd.R_reads' HOL.out).2.2 | (with_reducible refine Kd.C_alloc ?_ _) | (with_reducible refine Kd.C_drewN ?_ _) | (with_reducible refine Kd.C_drew ?_)))
         (case side2 => exact (Kd.R_reads' HOL.out).2.1)
         (case side3 => exact pC (Kd.C_below HR0_1.out HB.out))
         (case side4 => exact HC0_1.out)
         rintro e w66 ⟨rfl, hb⟩
         refine ⟨_, rfl, ?_⟩
         replace HO_E := aR HO_E hb
         replace HOL := aR HOL hb
         replace BKA := aB BKA hb
         replace BKD := aB BKD hb
         replace BKB := aB BKB hb
         replace HB := aH hb
         (try clear hb)
         (try clear hb2)
         (try clear hk)
         (try clear hi)
         refine hK.out _ _ ⟨(blk_cell BKB.out 0).trans rfl, (blk_cell BKB.out 1).trans rfl, (blk_cell BKB.out 2).trans rfl, (blk_cell BKB.out 3).trans rfl, (blk_cell BKA.out 0).trans rfl, (blk_cell BKA.out 1).trans rfl⟩ (fun hHeld => ?_)
         clear hK K
         refine norm_ (a' := ?_) ?_ ?_
         rotate_left
         ·show Act.put _ (some 36) _ = _
          simp only [Act.put, List.setIfInBounds_toArray, List.set_cons_zero, List.set_cons_succ, i64_w, i32_w]
          rfl
         refine done_ kr ?_
         have hnb67 := NBB_A.out
         have hnc67 := NBA_B.out
         have hnb68 := NBB_D.out
         have hnc68 := NBD_B.out
         obtain ⟨hcz69_0, hcz69_1, hcz69_2, hcz69_3, hfz69_0, hfz69_1, hfz69_2, hfz69_3⟩ := bc4 BKB.out
         try go_wp2_with (first | ((with_reducible refine gate_callee (f := 29) rfl ?_); refine goesL_ (some 40) rfl rfl Try.func29 kr rfl #[.agg #[.int .i64 tF, .int .i64 tG, .int .i64 tJ, .slice Ao63 xE_2.length co63], .int .i64 (rd l0_1 0)] rfl p5 ?_; (with_reducible refine (spec_l26Next.calls k2 tF tG tJ (fun k_ => some k_ = (.slice Ao63 xE_2.length co63 : Value).ownBlock) (.slice Ao63 xE_2.length co63) xE_2 (rd l0_1 0) false tX w _ ?side1 ?side2 A51.out).mono ?_); (case side1 => repeat (first | (with_reducible first | exact HB.out | apply below_alloc | apply pw_below_drewN | apply below_drew1 | refine below_set ?_ GEA.out | refine below_set ?_ GED.out | refine below_set ?_ GEB.out) | exact HB.out)); (case side2 => exact Kd.R_tight rfl HO_E.out); rintro e w70 ⟨rfl, hy0, hb, hkp⟩; refine ⟨_, rfl, ?_⟩; replace BKA := Aside0.mk (blk_kept (pK BKA.out) hkp (fun hs_ => (fun e_ => (Kd.R_ne HO_E.out BKA.out (by decide)) e_) hs_)); replace BKD := Aside0.mk (blk_kept (pK BKD.out) hkp (fun hs_ => (fun e_ => (Kd.R_ne HO_E.out BKD.out (by decide)) e_) hs_)); replace BKB := Aside0.mk (blk_kept (pK BKB.out) hkp (fun hs_ => (fun e_ => (Kd.R_ne HO_E.out BKB.out (by decide)) e_) hs_)); replace HO_E := Aside0.mk (Kd.R_reok rfl hy0 (fun k_ e_ => HO_E.out.1 k_ e_)); replace HOL := Aside0.mk (Kd.R_mono (ok' := fun k_ => some k_ ≠ (.slice Ao63 xE_2.length co63 : Value).ownBlock) (Kd.R_keptB (HOL.out) hkp (fun k_ hk_ hs_ => (hk_.2) hs_)) (fun k_ hk_ => hk_.1.2)); replace HB := Aside0.mk (hb); (try clear hb); (try clear hkp); (try clear hy0); have hnb71 := NBD_A.out; have hnc71 := NBA_D.out; obtain ⟨hcz72_0, hcz72_1, hcz72_2, hcz72_3, hfz72_0, hfz72_1, hfz72_2, hfz72_3⟩ := bc4 BKD.out))
         refine bodyPost_ret (results_ct rfl _ _ gbD 32 #[.int .i64 0, .int .i64 0, .int .i64 0, .slice none 0 0] (0, 0) _ rfl (by (with_reducible repeat (first | refine blk_drewN ?_ _ | refine blk_drew ?_ | refine blk_alloc ?_ _)); refine blk_put (cs := #[.int .i64 0, .int .i64 0, .int .i64 0, .slice none 0 0]) ?_ 3 _ rfl; (with_reducible repeat (first | refine blk_drewN ?_ _ | refine blk_drew ?_ | refine blk_alloc ?_ _)); refine blk_put (cs := #[.int .i64 0, .int .i64 0, .int .i64 xP_2, .slice none 0 0]) ?_ 2 _ rfl; (with_reducible repeat (first | refine blk_drewN ?_ _ | refine blk_drew ?_ | refine blk_alloc ?_ _)); refine blk_put (cs := #[.int .i64 0, .int .i64 xQ_2, .int .i64 xP_2, .slice none 0 0]) ?_ 1 _ rfl; (with_reducible repeat (first | refine blk_drewN ?_ _ | refine blk_drew ?_ | refine blk_alloc ?_ _)); refine blk_put (cs := #[.int .i64 xU_2, .int .i64 xQ_2, .int .i64 xP_2, .slice none 0 0]) ?_ 0 _ rfl; exact pK BKD.out) Try.underlying32 rfl kr) rfl ?_
         exact ⟨_, p8, p9, pB⟩
    ·rw [if_neg c28] at H
     exact absurd H (by simp)
end Go.Proofs.Ytbhckhblonkajaa.Q
