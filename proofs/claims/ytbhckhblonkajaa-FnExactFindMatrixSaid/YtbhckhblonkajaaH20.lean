/- Part of a proof: contracts and lemmas that the row's text uses; joined by a program. -/
import Derived.Test.YtbhckhblonkajaaH04
import Derived.Test.YtbhckhblonkajaaH15
import Derived.Test.YtbhckhblonkajaaH19
set_option linter.unusedVariables false
set_option linter.unusedSimpArgs false
namespace Go.Proofs.Ytbhckhblonkajaa.Q
open Go.RowKit Go.Proofs.YtbhckhblonkajaaW.PrintWords Go.Proofs.YtbhckhblonkajaaW.PrintLast Go.Proofs.YtbhckhblonkajaaW.PrintMore
attribute [local go_sem] max2_int min2_int max_two min_two max_three min_three max_four min_four
mutual
def spec_l26Start.l0 : Nat → Int → List Int → Int → Int → List Int → Int → Int → Int → List Int → Option (Int × Int × Int × List Int)
 | 0, _, _, _, _, _, _, _, _, _ => none
 | k + 1, x2, x7, x9, xB, xC, xD, xE, xF, xA => if x9 < (x7.length : Int) then (spec_l26Start.l1 k x2 x7 x9 0 xB xC xD xE xF xA) else (some (xD, xE, xF, xA))
def spec_l26Start.l1 : Nat → Int → List Int → Int → Int → Int → List Int → Int → Int → Int → List Int → Option (Int × Int × Int × List Int)
 | 0, _, _, _, _, _, _, _, _, _, _ => none
 | k + 1, x2, x7, x9, x10, xB, xC, xD, xE, xF, xA => if x10 < xB then ((spec_l2Has.f x2 x10).bind fun tG => (if tG = true then (if 0 ≤ x9 then (if x9 < (x7.length : Int) then ((spec_l1Bit.f (x10 == (rd x7 x9))).bind fun tI => (if xA.length < 17592186044416 then (spec_l26Start.l1 k x2 x7 x9 (wrap64 (x10 + 1)) xB xC xD xE xF (xA ++ [tI])) else (none))) else (none)) else (none)) else ((spec_CircuitOf.f k xB xC x2 x10).bind fun tJ => (if 0 ≤ x9 then (if x9 < (x7.length : Int) then ((spec_l2Has.f tJ (rd x7 x9)).bind fun tL => ((spec_l1Bit.f tL).bind fun tM => (if xA.length < 17592186044416 then (spec_l26Start.l1 k x2 x7 x9 (wrap64 (x10 + 1)) xB xC xD xE xF (xA ++ [tM])) else (none)))) else (none)) else (none))))) else (spec_l26Start.l0 k x2 x7 (wrap64 (x9 + 1)) xB xC xD xE xF xA)
end
def spec_l26Start.f (k : Nat) (a0_0 : Int) (l0_1 : List Int) (a1 : Int) (a2 : Int) : Option (Int × Int × Int × List Int) := (spec_ElementsOf.f k a2).bind fun tA => (spec_l26Start.l0 k a2 tA 0 a0_0 l0_1 a1 (tA.length : Int) a0_0 ([] : List Int))
def spec_l26Start.T10 : Bool × List (List Nat × List Nat) := (true, [([], []), ([0], [0]), ([], []), ([], []), ([], []), ([3, 4], [3, 4]), ([5], [5]), ([2, 6], [2, 6]), ([7], [7]), ([8], [8]), ([1, 9, 8], [1, 9]), ([0, 1, 2, 3, 4, 5, 6, 7, 8, 9, 10], []), ([11, 10, 10, 0, 1, 2, 3, 4, 5, 6, 7, 8, 9, 10], [10, 11])])
def spec_l26Start.B10 : List Nat := [0, 1, 0, 0, 0, 24, 56, 124, 252, 508, 1023, 2047, 4095]
theorem spec_l26Start.tab10 : rtab .any (opsOf Try.f26 10) = spec_l26Start.T10 := by kernel_rfl
theorem spec_l26Start.bits10 : waitsOk spec_l26Start.T10.2 spec_l26Start.B10 = true := by kernel_rfl
def spec_l26Start.T11 : Bool × List (List Nat × List Nat) := (true, [([], []), ([0], [0]), ([], []), ([], []), ([], []), ([2, 3, 4], [2, 3, 4]), ([], []), ([], []), ([6, 7], [6, 7]), ([8], [8]), ([5, 9, 5], [5, 9]), ([10, 10], [10]), ([11], [11]), ([1, 12, 11], [1, 12]), ([0, 1, 2, 3, 4, 5, 6, 7, 8, 9, 10, 11, 12, 13], []), ([14, 13, 13, 0, 1, 2, 3, 4, 5, 6, 7, 8, 9, 10, 11, 12, 13], [13, 14])])
def spec_l26Start.B11 : List Nat := [0, 1, 0, 0, 0, 28, 0, 0, 192, 448, 1020, 2044, 4092, 8191, 16383, 32767]
theorem spec_l26Start.tab11 : rtab .any (opsOf Try.f26 11) = spec_l26Start.T11 := by kernel_rfl
theorem spec_l26Start.bits11 : waitsOk spec_l26Start.T11.2 spec_l26Start.B11 = true := by kernel_rfl
set_option maxHeartbeats 8000000 in
set_option maxRecDepth 100000 in
theorem spec_l26Start.calls (k : Nat) (a0_0 : Int) (A0_1 : Option Addr) (c0_1 : Nat) (l0_1 : List Int) (a1 : Int) (a2 : Int) (r1 : Int) (r2 : Int) (r3 : Int) (r4 : List Int) (w : World) (hr0_1 : Kd.C (Kd.int .i64) w A0_1 l0_1.length l0_1) (hc0_1 : l0_1.length ≤ c0_1) (h : spec_l26Start.f k a0_0 l0_1 a1 a2 = some (r1, r2, r3, r4)) :
  Calls Try.prog 26 #[.agg #[.int .i64 a0_0, .slice A0_1 l0_1.length c0_1], .int .i64 a1, .int .i64 a2] w fun e w' => ∃ v3_ : Value, e = .returned (.agg #[.int .i64 r1, .int .i64 r2, .int .i64 r3, v3_]) ∧ Kd.R (Kd.int .i64) 3 w' w.heap.size (fun _ => True) v3_ r4 ∧ Below w.heap.size w w' := by
 have hu27 := Try.underlying27
 have hu32 := Try.underlying32
 have HR0_1 := Aside0.mk hr0_1
 have HC0_1 := Aside0.mk hc0_1
 clear hr0_1 hc0_1
 have HB := Aside0.mk (Below.refl w.heap.size w)
 have H : ((spec_ElementsOf.f k a2).bind fun tF => (spec_l26Start.l0 k a2 tF 0 a0_0 l0_1 a1 (tF.length : Int) a0_0 ([] : List Int))) = some (r1, r2, r3, r4) := h
 clear h
 replace H := bS H
 obtain ⟨tF, A4, H⟩ := H
 have H' := Aside0.mk H
 clear H
 go_enter Try.func26, Try.ntmps26
 go_wp2_with (first | (refine bE 3 #[.int .i64 a0_0, .slice A0_1 l0_1.length c0_1] 27 ?_; intro gbB hg w5 hbox hb; have BKB := Aside0.mk hbox; have GWB := aZ w hg; have GEB := aZ w hg; replace HB := aH hb; clear hb hbox hg) | (refine bE 6 #[.int .i64 0, .int .i64 0, .int .i64 0, .slice none 0 0] 32 ?_; intro gbE hg w6 hbox hb; have BKE := Aside0.mk hbox; have GWE := aZ w hg; have GEE := aZ w hg; replace HB := aH hb; have NBB_E := aL BKB hg; have NBE_B := aG BKB hg; replace BKB := aB BKB hb; clear hb hbox hg) | ((with_reducible refine gate_callee (f := 39) rfl ?_); refine goesL_ (some 12) rfl rfl Try.func39 kr rfl #[.int .i64 a2] rfl p5 ?_; (with_reducible refine (spec_ElementsOf.calls k a2 tF _ A4.out).mono ?_); rintro e w7 ⟨vX, rfl, ho0, hb⟩; refine ⟨_, rfl, ?_⟩; have HOM := Aside0.mk (Kd.R_lower ho0 (below_size pB)); replace BKB := aB BKB hb; replace BKE := aB BKE hb; replace HB := aH hb; (try clear hb); (try clear ho0); obtain ⟨Ao8, co8, eo8⟩ := Kd.R_slice HOM.out; subst eo8; have hnb9 := NBB_E.out; have hnc9 := NBE_B.out; obtain ⟨hcz10_0, hcz10_1, hfz10_0, hfz10_1⟩ := bc2 BKB.out) | (refine bE 8 #[.int .i64 0, .int .i64 0, .int .i64 0, .slice none 0 0] 32 ?_; intro gbA hg w11 hbox hb; replace HOM := aR HOM hb; have BKA := Aside0.mk hbox; have GWA := aZ w hg; have GEA := aZ w hg; replace HB := aH hb; have NBB_A := aL BKB hg; have NBA_B := aG BKB hg; replace BKB := aB BKB hb; have NBE_A := aL BKE hg; have NBA_E := aG BKE hg; replace BKE := aB BKE hb; clear hb hbox hg; have hnb12 := NBA_B.out; have hnc12 := NBB_A.out; have hnb13 := NBA_E.out; have hnc13 := NBE_A.out; obtain ⟨hcz14_0, hcz14_1, hcz14_2, hcz14_3, hfz14_0, hfz14_1, hfz14_2, hfz14_3⟩ := bc4 BKA.out))
 go_loopg [9] k (fun kq v9 w' => ∃ (x9_1 : Int) (xD_1 : List Int) (uD : Value), v9 = .int .i64 x9_1 ∧ Aside0 (spec_l26Start.l0 kq a2 tF x9_1 a0_0 l0_1 a1 (tF.length : Int) a0_0 xD_1 = some (r1, r2, r3, r4)) ∧ Aside0 (kq ≤ k) ∧ Aside0 (Kd.R (Kd.int .i64) 3 w' w.heap.size (fun k_ => some k_ ≠ (uD : Value).ownBlock) (.slice Ao8 tF.length co8) tF) ∧ Aside0 (Kd.R (Kd.int .i64) 3 w' w.heap.size (fun k_ => some k_ ≠ ((.slice Ao8 tF.length co8) : Value).ownBlock) uD xD_1) ∧ Aside0 (w'.heap[gbB]? = some (.cells #[.int .i64 a0_0, (.slice A0_1 l0_1.length c0_1)] 27 (0, 0))) ∧ Aside0 (w'.heap[gbE]? = some (.cells #[.int .i64 0, .int .i64 0, .int .i64 0, (.slice none 0 0)] 32 (0, 0))) ∧ Aside0 (w'.heap[gbA]? = some (.cells #[.int .i64 a1, .int .i64 (tF.length : Int), .int .i64 a0_0, uD] 32 (0, 0))) ∧ Aside0 (Below w.heap.size w w'))
 case atStart => exact ⟨(0), (([] : List Int)), (.slice none 0 0), p7, H', ⟨Nat.le_refl _⟩, ⟨by (with_reducible repeat (first | apply Kd.R_alloc | apply Kd.R_drewN | apply Kd.R_drew)); exact Kd.R_mono (Kd.R_far (p := ⟨gbA, 3, none⟩) (Kd.R_far (p := ⟨gbA, 2, none⟩) (Kd.R_far (p := ⟨gbA, 1, none⟩) (Kd.R_far (p := ⟨gbA, 0, none⟩) (Kd.R_types HOM.out BKA.out (by decide)) (fun _ hk => hk.2) (.int .i64 a1)) (fun _ hk => hk.2) (.int .i64 (tF.length : Int))) (fun _ hk => hk.2) (.int .i64 a0_0)) (fun _ hk => hk.2) (.slice none 0 0)) (fun _ hk => (by simp [Value.ownBlock]))⟩, ⟨by first | exact Kd.R_nil _ _ _ _ _ | exact Kd.N_nil _ _ _ _ _ | exact Kd.V_nil _ _ _ _ _ | exact Kd.Q_nil _ _ _ _ _ | exact Kd.S_nil _ _ _ _ _⟩, ⟨qK BKB.out⟩, ⟨qK BKE.out⟩, ⟨by (with_reducible repeat (first | refine blk_drewN ?_ _ | refine blk_drew ?_ | refine blk_alloc ?_ _)); refine blk_put (cs := #[.int .i64 a1, .int .i64 (tF.length : Int), .int .i64 a0_0, .slice none 0 0]) ?_ 3 _ rfl; (with_reducible repeat (first | refine blk_drewN ?_ _ | refine blk_drew ?_ | refine blk_alloc ?_ _)); refine blk_put (cs := #[.int .i64 a1, .int .i64 (tF.length : Int), .int .i64 0, .slice none 0 0]) ?_ 2 _ rfl; (with_reducible repeat (first | refine blk_drewN ?_ _ | refine blk_drew ?_ | refine blk_alloc ?_ _)); refine blk_put (cs := #[.int .i64 a1, .int .i64 0, .int .i64 0, .slice none 0 0]) ?_ 1 _ rfl; (with_reducible repeat (first | refine blk_drewN ?_ _ | refine blk_drew ?_ | refine blk_alloc ?_ _)); refine blk_put (cs := #[.int .i64 0, .int .i64 0, .int .i64 0, .slice none 0 0]) ?_ 0 _ rfl; (with_reducible repeat (first | refine blk_drewN ?_ _ | refine blk_drew ?_ | refine blk_alloc ?_ _)); exact BKA.out⟩, ⟨pB⟩⟩
 case round =>
  clear H'
  try clear hcz10_0
  try clear hcz10_1
  try clear hcz14_0
  try clear hcz14_1
  try clear hcz14_2
  try clear hcz14_3
  try clear hfz10_0
  try clear hfz10_1
  try clear hfz14_0
  try clear hfz14_1
  try clear hfz14_2
  try clear hfz14_3
  obtain ⟨x9_1, xD_1, uD, rfl, HA, HK1, HO_7, HO_D, BKB, BKE, BKA, HB⟩ := hrel
  cases gk with
  | zero => exact absurd HA.out (by simp [spec_l26Start.l0])
  | succ k1 =>
   have H := HA.out
   clear HA
   simp only [spec_l26Start.l0] at H
   by_cases c15 : x9_1 < (tF.length : Int)
   ·rw [if_pos c15] at H
    have c15b0 : decide (x9_1 < (tF.length : Int)) = true := decide_eq_true c15
    clear c15
    have H' := Aside0.mk H
    clear H
    go_wp2
    go_loopg [10] k1 (fun kq v10 w' => ∃ (x10_2 : Int) (xD_2 : List Int) (uD : Value), v10 = .int .i64 x10_2 ∧ Aside0 (spec_l26Start.l1 kq a2 tF x9_1 x10_2 a0_0 l0_1 a1 (tF.length : Int) a0_0 xD_2 = some (r1, r2, r3, r4)) ∧ Aside0 (kq ≤ k1) ∧ Aside0 (Kd.R (Kd.int .i64) 3 w' w.heap.size (fun k_ => some k_ ≠ (uD : Value).ownBlock) (.slice Ao8 tF.length co8) tF) ∧ Aside0 (Kd.R (Kd.int .i64) 3 w' w.heap.size (fun k_ => some k_ ≠ ((.slice Ao8 tF.length co8) : Value).ownBlock) uD xD_2) ∧ Aside0 (w'.heap[gbB]? = some (.cells #[.int .i64 a0_0, (.slice A0_1 l0_1.length c0_1)] 27 (0, 0))) ∧ Aside0 (w'.heap[gbE]? = some (.cells #[.int .i64 0, .int .i64 0, .int .i64 0, (.slice none 0 0)] 32 (0, 0))) ∧ Aside0 (w'.heap[gbA]? = some (.cells #[.int .i64 a1, .int .i64 (tF.length : Int), .int .i64 a0_0, uD] 32 (0, 0))) ∧ Aside0 (Below w.heap.size w w'))
    case atStart => exact ⟨(0), (xD_1), (uD), p7, H', ⟨Nat.le_refl _⟩, ⟨pR HO_7.out⟩, ⟨pR HO_D.out⟩, ⟨pK BKB.out⟩, ⟨pK BKE.out⟩, ⟨pK BKA.out⟩, ⟨pB⟩⟩
    case round =>
     clear H'
     try clear c15
     try clear c15b0
     try clear hcz10_0
     try clear hcz10_1
     try clear hcz14_0
     try clear hcz14_1
     try clear hcz14_2
     try clear hcz14_3
     try clear hfz10_0
     try clear hfz10_1
     try clear hfz14_0
     try clear hfz14_1
     try clear hfz14_2
     try clear hfz14_3
     obtain ⟨x10_2, xD_2, uD, rfl, HA, HK2, HO_7, HO_D, BKB, BKE, BKA, HB⟩ := hrel
     cases gk with
     | zero => exact absurd HA.out (by simp [spec_l26Start.l1])
     | succ k2 =>
      have H := HA.out
      clear HA
      simp only [spec_l26Start.l1] at H
      by_cases c16 : x10_2 < a0_0
      ·rw [if_pos c16] at H
       have c16b0 : decide (x10_2 < a0_0) = true := decide_eq_true c16
       clear c16
       replace H := bS H
       obtain ⟨tW, A17, H⟩ := H
       by_cases c18 : tW = true
       ·subst c18
        replace H := iP H
        by_cases c19 : 0 ≤ x9_1
        ·rw [if_pos c19] at H
         have c19b0 : decide (0 ≤ x9_1) = true := decide_eq_true c19
         clear c19
         by_cases c20 : x9_1 < (tF.length : Int)
         ·rw [if_pos c20] at H
          have c20b0 : decide (x9_1 < (tF.length : Int)) = true := decide_eq_true c20
          clear c20
          replace H := bS H
          obtain ⟨tO, A21, H⟩ := H
          by_cases c22 : xD_2.length < 17592186044416
          ·rw [if_pos c22] at H
           have LMc22 := Aside0.mk c22
           clear c22
           obtain ⟨yJ, hyJ⟩ : ∃ y_ : List Int, y_ = (xD_2 ++ [tO]) := ⟨_, rfl⟩
           replace H : (spec_l26Start.l1 k2 a2 tF x9_1 (wrap64 (x10_2 + 1)) a0_0 l0_1 a1 (tF.length : Int) a0_0 yJ) = some (r1, r2, r3, r4) := yR hyJ H
           have NyJ := Aside0.mk hyJ
           clear hyJ
           have H' := Aside0.mk H
           clear H
           have hnb23 := NBB_E.out
           have hnc23 := NBE_B.out
           have hnb24 := NBB_A.out
           have hnc24 := NBA_B.out
           obtain ⟨hcz25_0, hcz25_1, hfz25_0, hfz25_1⟩ := bc2 BKB.out
           try go_wp2_with (first | ((with_reducible refine gate_callee (f := 40) rfl ?_); refine goesL_ (some 33) rfl rfl Try.func40 kr rfl #[.int .i64 a2, .int .i64 x10_2] rfl p5 ?_; (with_reducible refine (spec_l2Has.calls a2 x10_2 true _ A17.out).mono ?_); rintro e w' ⟨rfl, ⟨nd, rfl⟩⟩; refine ⟨_, rfl, ?_⟩; (try (rw [drewN_self wr]; generalize hq_ : World.drewN wr _ = wr; have n0_ : Aside0 (Kd.R (Kd.int .i64) 3 wr w.heap.size (fun k_ => some k_ ≠ (.slice Ao8 tF.length co8 : Value).ownBlock) uD xD_2) := ⟨by rw [← hq_]; exact (pR HO_D.out)⟩; have n1_ : Aside0 (Kd.R (Kd.int .i64) 3 wr w.heap.size (fun k_ => some k_ ≠ (uD : Value).ownBlock) (.slice Ao8 tF.length co8) tF) := ⟨by rw [← hq_]; exact (pR HO_7.out)⟩; have n2_ : Aside0 (wr.heap[gbB]? = some (.cells #[.int .i64 a0_0, .slice A0_1 l0_1.length c0_1] 27 (0, 0))) := ⟨by rw [← hq_]; exact (pK BKB.out)⟩; have n3_ : Aside0 (wr.heap[gbE]? = some (.cells #[.int .i64 0, .int .i64 0, .int .i64 0, .slice none 0 0] 32 (0, 0))) := ⟨by rw [← hq_]; exact (pK BKE.out)⟩; have n4_ : Aside0 (wr.heap[gbA]? = some (.cells #[.int .i64 a1, .int .i64 (tF.length : Int), .int .i64 a0_0, uD] 32 (0, 0))) := ⟨by rw [← hq_]; exact (pK BKA.out)⟩; have n5_ : Aside0 (Below w.heap.size w wr) := ⟨by rw [← hq_]; exact pB⟩; clear HO_D HO_7 BKB BKE BKA HB hq_; have HO_D := n0_; have HO_7 := n1_; have BKB := n2_; have BKE := n3_; have BKA := n4_; have HB := n5_; clear n0_ n1_ n2_ n3_ n4_ n5_))))
           replace HO_7 := Aside0.mk (Kd.R_drew HO_7.out)
           replace HO_D := Aside0.mk (Kd.R_drew HO_D.out)
           replace BKB := Aside0.mk (blk_drew BKB.out)
           replace BKE := Aside0.mk (blk_drew BKE.out)
           replace BKA := Aside0.mk (blk_drew BKA.out)
           replace HB := Aside0.mk (below_drew1 HB.out)
           have pG : 0 ≤ (x9_1 : Int) := oD
           have qG : x9_1 < (tF.length : Int) := oD
           obtain ⟨adG, eG, hxG_0⟩ := Kd.at_int (Kd.R_reads' HO_7.out).2.2 x9_1 pG qG
           cases eG
           replace pG := eq_true pG
           replace qG := eq_true qG
           refine start_ (n := 13) (S := fun w' => w'.cell? ⟨gbA, 0, none⟩ = some (.int .i64 a1) ∧ w'.cell? ⟨gbA, 1, none⟩ = some (.int .i64 (tF.length : Int)) ∧ w'.cell? ⟨gbA, 2, none⟩ = some (.int .i64 a0_0) ∧ w'.cell? ⟨gbA, 3, none⟩ = some (uD) ∧ w'.cell? (adG.add (x9_1).toNat) = some (.int .i64 (rd tF x9_1))) (ds := [10, 12]) #[false, false, false, false, false, false, false, false, false, false, false, false, false] kr rfl rfl ⟨(blk_cell BKA.out 0).trans rfl, (blk_cell BKA.out 1).trans rfl, (blk_cell BKA.out 2).trans rfl, (blk_cell BKA.out 3).trans rfl, hxG_0⟩ (fun hHeld => ?_); refine with_tabW spec_l26Start.tab10 spec_l26Start.bits10 (fun HT_ HW_ => ?_)
           generalize wr.drew = w26 at HO_7 HO_D BKB BKE BKA HB hxG_0 hHeld ⊢
           refine pA 0 34 (any_of HT_.out kr) ?_
           refine pA 2 36 (any_of HT_.out kr) ?_
           refine pA 3 37 (any_of HT_.out kr) ?_
           refine pA 4 38 (any_of HT_.out kr) ?_
           refine pA 5 39 (any_of HT_.out kr) ?_
           refine tA5 1 35 (take_ofW HT_.out HW_.out kr) hHeld ?_
           refine tA5 6 40 (take_ofW HT_.out HW_.out kr) hHeld ?_
           refine pA 7 41 (any_of HT_.out kr) ?_
           refine one_ (i := 8) (N := some 42) #[true, true, true, true, true, true, true, true, true, false, false, false, false] rfl rfl (one_of HT_.out kr) (by decide) (fun K hK => ?_)
           refine goes_ Try.func41 kr rfl #[.bool (x10_2 == (rd tF x9_1))] (by rfl) rfl rfl p5 ?_
           with_reducible refine (spec_l1Bit.calls (x10_2 == (rd tF x9_1)) tO _ A21.out).mono ?_
           rintro e w' ⟨rfl, ⟨nd, rfl⟩⟩
           refine ⟨_, rfl, ?_⟩
           refine hK.out _ _ ⟨(blk_cell BKA.out 0).trans rfl, (blk_cell BKA.out 1).trans rfl, (blk_cell BKA.out 2).trans rfl, (blk_cell BKA.out 3).trans rfl, hHeld.2.2.2.2⟩ (fun hHeld => ?_)
           clear hK K
           refine norm_ (a' := ?_) ?_ ?_
           rotate_left
           ·show Act.put _ (some 42) _ = _
            simp only [Act.put, List.setIfInBounds_toArray, List.set_cons_zero, List.set_cons_succ, i64_w, i32_w]
            rfl
           refine one_ (i := 9) (N := some 43) #[true, true, true, true, true, true, true, true, true, true, false, false, false] rfl rfl (one_of HT_.out kr) (by decide) (fun K hK => ?_)
           refine value_ (w1 := ?_) (v := ?_) (by rfl) rfl ?_ ?_
           rotate_left 2
           ·go_simp
            constructor
            ·rfl
            ·rfl
           refine hK.out _ _ ⟨(blk_cell (blk_alloc BKA.out _) 0).trans rfl, (blk_cell (blk_alloc BKA.out _) 1).trans rfl, (blk_cell (blk_alloc BKA.out _) 2).trans rfl, (blk_cell (blk_alloc BKA.out _) 3).trans rfl, (World.cell?_alloc_lt _ _ _ (World.block_lt_of_cell? _ _ (hHeld.2.2.2.2))).trans (hHeld.2.2.2.2)⟩ (fun hHeld => ?_)
           clear hK K
           refine norm_ (a' := ?_) ?_ ?_
           rotate_left
           ·show Act.put _ (some 43) _ = _
            simp only [Act.put, List.setIfInBounds_toArray, List.set_cons_zero, List.set_cons_succ, i64_w, i32_w]
            rfl
           refine last_ (i := 10) (N := some 44) #[true, true, true, true, true, true, true, true, true, true, true, false, false] rfl rfl (one_of HT_.out kr) (by decide) (fun K hK => ?_)
           refine Kd.R_append_step (Kd.int .i64) (w0 := w) w.heap.size (by rfl) (.tmp 35) (.tmp 43) 22 3 (.int .i64 0) 8 rfl Try.underlying22 info3 rfl (by decide) (by omega) uD xD_2 tO [.int .i64 tO] (fun k_ => some k_ ≠ (.slice (some adG) tF.length co8 : Value).ownBlock) (fun _ => False) rfl rfl ?aP (fun _ hk => hk.elim) ?aF ?aO ?aB ?aS ?aL ?_
           (case aP => exact rfl)
           (case aB => exact pB)
           (case aF => exact (fun k_ hk => Kd.fresh' (Kd.R_lt (pR HO_7.out)) k_ hk))
           (case aO => exact (pR HO_D.out))
           (case aS => exact (below_size pB))
           (case aL => have := LMc22.out; omega)
           intro vY w27 ho hb hg hat
           rw [← NyJ.out] at ho
           have n0_ := Aside0.mk (Kd.R_after (ok := (fun _ => True)) (by (with_reducible repeat (first | apply Kd.R_alloc | apply Kd.R_drewN | apply Kd.R_drew)); exact Kd.R_mono HO_7.out (fun _ hk => ⟨trivial, hk⟩)) hg hat)
           have n1_ := Aside0.mk (blk_grown (g := gbB) (o := .cells #[.int .i64 a0_0, .slice A0_1 l0_1.length c0_1] 27 (0, 0)) (pK BKB.out) hg (Kd.R_ne HO_D.out BKB.out (by decide)))
           have n2_ := Aside0.mk (blk_grown (g := gbE) (o := .cells #[.int .i64 0, .int .i64 0, .int .i64 0, .slice none 0 0] 32 (0, 0)) (pK BKE.out) hg (Kd.R_ne HO_D.out BKE.out (by decide)))
           have n3_ := Aside0.mk (blk_grown (g := gbA) (o := .cells #[.int .i64 a1, .int .i64 (tF.length : Int), .int .i64 a0_0, uD] 32 (0, 0)) (pK BKA.out) hg (Kd.R_ne HO_D.out BKA.out (by decide)))
           have n4_ := Aside0.mk (hb)
           have n5_ := Aside0.mk (ho)
           clear HO_7
           clear BKB
           clear BKE
           clear BKA
           clear HB
           clear HO_D
           have HO_7 := n0_
           have BKB := n1_
           have BKE := n2_
           have BKA := n3_
           have HB := n4_
           have HOU := n5_
           clear n0_ n1_ n2_ n3_ n4_ n5_
           clear ho hb hg hat
           obtain ⟨Ao28, co28, eo28⟩ := Kd.R_slice HOU.out
           (first | subst eo28 | (injection eo28 with f1_ f2_ f3_; have f4_ := f1_.symm; have f5_ := f3_.symm; clear f1_ f2_ f3_; subst f4_; subst f5_))
           refine hK.out _ _ ?_
           clear hK K
           refine norm_ (a' := ?_) ?_ ?_
           rotate_left
           ·show Act.put _ (some 44) _ = _
            simp only [Act.put, List.setIfInBounds_toArray, List.set_cons_zero, List.set_cons_succ, i64_w, i32_w]
            rfl
           refine pA 11 45 (any_of HT_.out kr) ?_
           refine last_ (i := 12) (N := none) #[true, true, true, true, true, true, true, true, true, true, true, true, true] rfl rfl (one_of HT_.out kr) (by decide) (fun K hK => ?_)
           have hs29 : w27.cell? ⟨gbA, 3, none⟩ = some (uD) := (blk_cell BKA.out 3).trans rfl
           have hfs29 := blk_frozen BKA.out 3
           have hns29_0 := NBB_A.out
           have hns29_1 := NBE_A.out
           have hms29_0 := NBA_B.out
           have hms29_1 := NBA_E.out
           refine skip_ (w1 := ?_) (by rfl) rfl ?_ ?_
           rotate_left
           ·go_simp
            rfl
           refine hK.out _ _ ?_
           clear hK K
           refine done_ (done_of HT_.out kr) ?_
           try go_wp2
           go_roundg k2
           case measure => have := HK1.out; have := HK2.out; omega
           case rel => exact ⟨(wrap64 (x10_2 + 1)), (yJ), (.slice Ao28 yJ.length co28), p7, H', ⟨by have := HK1.out; have := HK2.out; omega⟩, ⟨by (with_reducible repeat (first | apply Kd.R_alloc | apply Kd.R_drewN | apply Kd.R_drew)); exact Kd.R_mono (Kd.R_far (p := ⟨gbA, 3, none⟩) (Kd.R_types HO_7.out BKA.out (by decide)) (fun _ hk => hk.2) (.slice Ao28 yJ.length co28)) (fun _ hk => hk.1.2)⟩, ⟨by (with_reducible repeat (first | apply Kd.R_alloc | apply Kd.R_drewN | apply Kd.R_drew)); exact Kd.R_mono (Kd.R_far (p := ⟨gbA, 3, none⟩) (Kd.R_types HOU.out BKA.out (by decide)) (fun _ hk => hk.2) (.slice Ao28 yJ.length co28)) (fun _ hk => hk.1)⟩, ⟨qK BKB.out⟩, ⟨qK BKE.out⟩, ⟨by (with_reducible repeat (first | refine blk_drewN ?_ _ | refine blk_drew ?_ | refine blk_alloc ?_ _)); refine blk_put (cs := #[.int .i64 a1, .int .i64 (tF.length : Int), .int .i64 a0_0, uD]) ?_ 3 _ rfl; (with_reducible repeat (first | refine blk_drewN ?_ _ | refine blk_drew ?_ | refine blk_alloc ?_ _)); exact BKA.out⟩, ⟨pB⟩⟩
          ·rw [if_neg c22] at H
           exact absurd H (by simp)
         ·rw [if_neg c20] at H
          exact absurd H (by simp)
        ·rw [if_neg c19] at H
         exact absurd H (by simp)
       ·replace c18 := Bool.eq_false_iff.mpr c18
        subst c18
        replace H := iN H
        replace H := bS H
        obtain ⟨tQ, A30, H⟩ := H
        by_cases c31 : 0 ≤ x9_1
        ·rw [if_pos c31] at H
         have c31b0 : decide (0 ≤ x9_1) = true := decide_eq_true c31
         clear c31
         by_cases c32 : x9_1 < (tF.length : Int)
         ·rw [if_pos c32] at H
          have c32b0 : decide (x9_1 < (tF.length : Int)) = true := decide_eq_true c32
          clear c32
          replace H := bS H
          obtain ⟨tT, A33, H⟩ := H
          replace H := bS H
          obtain ⟨tP, A34, H⟩ := H
          by_cases c35 : xD_2.length < 17592186044416
          ·rw [if_pos c35] at H
           have LMc35 := Aside0.mk c35
           clear c35
           obtain ⟨yL, hyL⟩ : ∃ y_ : List Int, y_ = (xD_2 ++ [tP]) := ⟨_, rfl⟩
           replace H : (spec_l26Start.l1 k2 a2 tF x9_1 (wrap64 (x10_2 + 1)) a0_0 l0_1 a1 (tF.length : Int) a0_0 yL) = some (r1, r2, r3, r4) := yR hyL H
           have NyL := Aside0.mk hyL
           clear hyL
           have H' := Aside0.mk H
           clear H
           have hnb36 := NBB_E.out
           have hnc36 := NBE_B.out
           have hnb37 := NBB_A.out
           have hnc37 := NBA_B.out
           obtain ⟨hcz38_0, hcz38_1, hfz38_0, hfz38_1⟩ := bc2 BKB.out
           try go_wp2_with (first | ((with_reducible refine gate_callee (f := 40) rfl ?_); refine goesL_ (some 33) rfl rfl Try.func40 kr rfl #[.int .i64 a2, .int .i64 x10_2] rfl p5 ?_; (with_reducible refine (spec_l2Has.calls a2 x10_2 false _ A17.out).mono ?_); rintro e w' ⟨rfl, ⟨nd, rfl⟩⟩; refine ⟨_, rfl, ?_⟩; (try (rw [drewN_self wr]; generalize hq_ : World.drewN wr _ = wr; have n0_ : Aside0 (Kd.R (Kd.int .i64) 3 wr w.heap.size (fun k_ => some k_ ≠ (.slice Ao8 tF.length co8 : Value).ownBlock) uD xD_2) := ⟨by rw [← hq_]; exact (pR HO_D.out)⟩; have n1_ : Aside0 (Kd.R (Kd.int .i64) 3 wr w.heap.size (fun k_ => some k_ ≠ (uD : Value).ownBlock) (.slice Ao8 tF.length co8) tF) := ⟨by rw [← hq_]; exact (pR HO_7.out)⟩; have n2_ : Aside0 (wr.heap[gbB]? = some (.cells #[.int .i64 a0_0, .slice A0_1 l0_1.length c0_1] 27 (0, 0))) := ⟨by rw [← hq_]; exact (pK BKB.out)⟩; have n3_ : Aside0 (wr.heap[gbE]? = some (.cells #[.int .i64 0, .int .i64 0, .int .i64 0, .slice none 0 0] 32 (0, 0))) := ⟨by rw [← hq_]; exact (pK BKE.out)⟩; have n4_ : Aside0 (wr.heap[gbA]? = some (.cells #[.int .i64 a1, .int .i64 (tF.length : Int), .int .i64 a0_0, uD] 32 (0, 0))) := ⟨by rw [← hq_]; exact (pK BKA.out)⟩; have n5_ : Aside0 (Below w.heap.size w wr) := ⟨by rw [← hq_]; exact pB⟩; clear HO_D HO_7 BKB BKE BKA HB hq_; have HO_D := n0_; have HO_7 := n1_; have BKB := n2_; have BKE := n3_; have BKA := n4_; have HB := n5_; clear n0_ n1_ n2_ n3_ n4_ n5_))))
           replace HO_7 := Aside0.mk (Kd.R_drew HO_7.out)
           replace HO_D := Aside0.mk (Kd.R_drew HO_D.out)
           replace BKB := Aside0.mk (blk_drew BKB.out)
           replace BKE := Aside0.mk (blk_drew BKE.out)
           replace BKA := Aside0.mk (blk_drew BKA.out)
           replace HB := Aside0.mk (below_drew1 HB.out)
           have pI : 0 ≤ (x9_1 : Int) := oD
           have qI : x9_1 < (tF.length : Int) := oD
           obtain ⟨adI, eI, hxI_0⟩ := Kd.at_int (Kd.R_reads' HO_7.out).2.2 x9_1 pI qI
           cases eI
           replace pI := eq_true pI
           replace qI := eq_true qI
           refine start_ (n := 16) (S := fun w' => w'.cell? ⟨gbA, 0, none⟩ = some (.int .i64 a1) ∧ w'.cell? ⟨gbA, 1, none⟩ = some (.int .i64 (tF.length : Int)) ∧ w'.cell? ⟨gbA, 2, none⟩ = some (.int .i64 a0_0) ∧ w'.cell? ⟨gbA, 3, none⟩ = some (uD) ∧ w'.cell? ⟨gbB, 0, none⟩ = some (.int .i64 a0_0) ∧ w'.cell? ⟨gbB, 1, none⟩ = some (.slice A0_1 l0_1.length c0_1) ∧ w'.cell? (adI.add (x9_1).toNat) = some (.int .i64 (rd tF x9_1))) (ds := [13, 15]) #[false, false, false, false, false, false, false, false, false, false, false, false, false, false, false, false] kr rfl rfl ⟨(blk_cell BKA.out 0).trans rfl, (blk_cell BKA.out 1).trans rfl, (blk_cell BKA.out 2).trans rfl, (blk_cell BKA.out 3).trans rfl, (blk_cell BKB.out 0).trans rfl, (blk_cell BKB.out 1).trans rfl, hxI_0⟩ (fun hHeld => ?_); refine with_tabW spec_l26Start.tab11 spec_l26Start.bits11 (fun HT_ HW_ => ?_)
           generalize wr.drew = w39 at HO_7 HO_D BKB BKE BKA HB hxI_0 hHeld ⊢
           refine pA 0 46 (any_of HT_.out kr) ?_
           refine pA 3 49 (any_of HT_.out kr) ?_
           refine pA 4 50 (any_of HT_.out kr) ?_
           refine pA 6 52 (any_of HT_.out kr) ?_
           refine pA 7 53 (any_of HT_.out kr) ?_
           refine pA 8 54 (any_of HT_.out kr) ?_
           refine tA7 1 47 (take_ofW HT_.out HW_.out kr) hHeld ?_
           refine tA7 2 48 (take_ofW HT_.out HW_.out kr) hHeld ?_
           refine tA7 9 55 (take_ofW HT_.out HW_.out kr) hHeld ?_
           refine one_ (i := 5) (N := some 51) #[true, true, true, true, true, true, true, true, true, true, false, false, false, false, false, false] rfl rfl (one_of HT_.out kr) (by decide) (fun K hK => ?_)
           refine goes_ Try.func42 kr rfl #[.agg #[.int .i64 a0_0, .slice A0_1 l0_1.length c0_1], .int .i64 a2, .int .i64 x10_2] (by rfl) rfl rfl p5 ?_
           with_reducible refine (spec_CircuitOf.calls k2 a0_0 _ _ l0_1 a2 x10_2 tQ _ ?side1 ?side2 A30.out).mono ?_
           (case side1 => exact pC (Kd.C_below HR0_1.out HB.out))
           (case side2 => exact HC0_1.out)
           rintro e w40 ⟨rfl, hb⟩
           have HS6_ := (hb.cell (World.block_lt_of_cell? _ _ (hHeld.2.2.2.2.2.2))).trans (hHeld.2.2.2.2.2.2)
           refine ⟨_, rfl, ?_⟩
           replace HO_7 := aR HO_7 hb
           replace HO_D := aR HO_D hb
           replace BKB := aB BKB hb
           replace BKE := aB BKE hb
           replace BKA := aB BKA hb
           replace HB := aH hb
           (try clear hb)
           (try clear hb2)
           (try clear hk)
           (try clear hi)
           refine hK.out _ _ ⟨(blk_cell BKA.out 0).trans rfl, (blk_cell BKA.out 1).trans rfl, (blk_cell BKA.out 2).trans rfl, (blk_cell BKA.out 3).trans rfl, (blk_cell BKB.out 0).trans rfl, (blk_cell BKB.out 1).trans rfl, HS6_⟩ (fun hHeld => ?_)
           clear hK K
           refine norm_ (a' := ?_) ?_ ?_
           rotate_left
           ·show Act.put _ (some 51) _ = _
            simp only [Act.put, List.setIfInBounds_toArray, List.set_cons_zero, List.set_cons_succ, i64_w, i32_w]
            rfl
           refine one_ (i := 10) (N := some 56) #[true, true, true, true, true, true, true, true, true, true, true, false, false, false, false, false] rfl rfl (one_of HT_.out kr) (by decide) (fun K hK => ?_)
           refine goes_ Try.func40 kr rfl #[.int .i64 tQ, .int .i64 (rd tF x9_1)] (by rfl) rfl rfl p5 ?_
           with_reducible refine (spec_l2Has.calls tQ (rd tF x9_1) tT _ A33.out).mono ?_
           rintro e w' ⟨rfl, ⟨nd, rfl⟩⟩
           refine ⟨_, rfl, ?_⟩
           refine hK.out _ _ ⟨(blk_cell BKA.out 0).trans rfl, (blk_cell BKA.out 1).trans rfl, (blk_cell BKA.out 2).trans rfl, (blk_cell BKA.out 3).trans rfl, (blk_cell BKB.out 0).trans rfl, (blk_cell BKB.out 1).trans rfl, hHeld.2.2.2.2.2.2⟩ (fun hHeld => ?_)
           clear hK K
           refine norm_ (a' := ?_) ?_ ?_
           rotate_left
           ·show Act.put _ (some 56) _ = _
            simp only [Act.put, List.setIfInBounds_toArray, List.set_cons_zero, List.set_cons_succ, i64_w, i32_w]
            rfl
           refine one_ (i := 11) (N := some 57) #[true, true, true, true, true, true, true, true, true, true, true, true, false, false, false, false] rfl rfl (one_of HT_.out kr) (by decide) (fun K hK => ?_)
           refine goes_ Try.func41 kr rfl #[.bool tT] (by rfl) rfl rfl p5 ?_
           with_reducible refine (spec_l1Bit.calls tT tP _ A34.out).mono ?_
           rintro e w' ⟨rfl, ⟨nd, rfl⟩⟩
           refine ⟨_, rfl, ?_⟩
           refine hK.out _ _ ⟨(blk_cell BKA.out 0).trans rfl, (blk_cell BKA.out 1).trans rfl, (blk_cell BKA.out 2).trans rfl, (blk_cell BKA.out 3).trans rfl, (blk_cell BKB.out 0).trans rfl, (blk_cell BKB.out 1).trans rfl, hHeld.2.2.2.2.2.2⟩ (fun hHeld => ?_)
           clear hK K
           refine norm_ (a' := ?_) ?_ ?_
           rotate_left
           ·show Act.put _ (some 57) _ = _
            simp only [Act.put, List.setIfInBounds_toArray, List.set_cons_zero, List.set_cons_succ, i64_w, i32_w]
            rfl
           refine one_ (i := 12) (N := some 58) #[true, true, true, true, true, true, true, true, true, true, true, true, true, false, false, false] rfl rfl (one_of HT_.out kr) (by decide) (fun K hK => ?_)
           refine value_ (w1 := ?_) (v := ?_) (by rfl) rfl ?_ ?_
           rotate_left 2
           ·go_simp
            constructor
            ·rfl
            ·rfl
           refine hK.out _ _ ⟨(blk_cell (blk_alloc BKA.out _) 0).trans rfl, (blk_cell (blk_alloc BKA.out _) 1).trans rfl, (blk_cell (blk_alloc BKA.out _) 2).trans rfl, (blk_cell (blk_alloc BKA.out _) 3).trans rfl, (blk_cell (blk_alloc BKB.out _) 0).trans rfl, (blk_cell (blk_alloc BKB.out _) 1).trans rfl, (World.cell?_alloc_lt _ _ _ (World.block_lt_of_cell? _ _ (hHeld.2.2.2.2.2.2))).trans (hHeld.2.2.2.2.2.2)⟩ (fun hHeld => ?_)
           clear hK K
           refine norm_ (a' := ?_) ?_ ?_
           rotate_left
           ·show Act.put _ (some 58) _ = _
            simp only [Act.put, List.setIfInBounds_toArray, List.set_cons_zero, List.set_cons_succ, i64_w, i32_w]
            rfl
           refine last_ (i := 13) (N := some 59) #[true, true, true, true, true, true, true, true, true, true, true, true, true, true, false, false] rfl rfl (one_of HT_.out kr) (by decide) (fun K hK => ?_)
           refine Kd.R_append_step (Kd.int .i64) (w0 := w) w.heap.size (by rfl) (.tmp 47) (.tmp 58) 22 3 (.int .i64 0) 8 rfl Try.underlying22 info3 rfl (by decide) (by omega) uD xD_2 tP [.int .i64 tP] (fun k_ => some k_ ≠ (.slice (some adI) tF.length co8 : Value).ownBlock) (fun _ => False) rfl rfl ?aP (fun _ hk => hk.elim) ?aF ?aO ?aB ?aS ?aL ?_
           (case aP => exact rfl)
           (case aB => exact pB)
           (case aF => exact (fun k_ hk => Kd.fresh' (Kd.R_lt (pR HO_7.out)) k_ hk))
           (case aO => exact (pR HO_D.out))
           (case aS => exact (below_size pB))
           (case aL => have := LMc35.out; omega)
           intro vZ w41 ho hb hg hat
           rw [← NyL.out] at ho
           have n0_ := Aside0.mk (Kd.R_after (ok := (fun _ => True)) (by (with_reducible repeat (first | apply Kd.R_alloc | apply Kd.R_drewN | apply Kd.R_drew)); exact Kd.R_mono HO_7.out (fun _ hk => ⟨trivial, hk⟩)) hg hat)
           have n1_ := Aside0.mk (blk_grown (g := gbB) (o := .cells #[.int .i64 a0_0, .slice A0_1 l0_1.length c0_1] 27 (0, 0)) (pK BKB.out) hg (Kd.R_ne HO_D.out BKB.out (by decide)))
           have n2_ := Aside0.mk (blk_grown (g := gbE) (o := .cells #[.int .i64 0, .int .i64 0, .int .i64 0, .slice none 0 0] 32 (0, 0)) (pK BKE.out) hg (Kd.R_ne HO_D.out BKE.out (by decide)))
           have n3_ := Aside0.mk (blk_grown (g := gbA) (o := .cells #[.int .i64 a1, .int .i64 (tF.length : Int), .int .i64 a0_0, uD] 32 (0, 0)) (pK BKA.out) hg (Kd.R_ne HO_D.out BKA.out (by decide)))
           have n4_ := Aside0.mk (hb)
           have n5_ := Aside0.mk (ho)
           clear HO_7
           clear BKB
           clear BKE
           clear BKA
           clear HB
           clear HO_D
           have HO_7 := n0_
           have BKB := n1_
           have BKE := n2_
           have BKA := n3_
           have HB := n4_
           have HOV := n5_
           clear n0_ n1_ n2_ n3_ n4_ n5_
           clear ho hb hg hat
           obtain ⟨Ao42, co42, eo42⟩ := Kd.R_slice HOV.out
           (first | subst eo42 | (injection eo42 with f1_ f2_ f3_; have f4_ := f1_.symm; have f5_ := f3_.symm; clear f1_ f2_ f3_; subst f4_; subst f5_))
           refine hK.out _ _ ?_
           clear hK K
           refine norm_ (a' := ?_) ?_ ?_
           rotate_left
           ·show Act.put _ (some 59) _ = _
            simp only [Act.put, List.setIfInBounds_toArray, List.set_cons_zero, List.set_cons_succ, i64_w, i32_w]
            rfl
           refine pA 14 60 (any_of HT_.out kr) ?_
           refine last_ (i := 15) (N := none) #[true, true, true, true, true, true, true, true, true, true, true, true, true, true, true, true] rfl rfl (one_of HT_.out kr) (by decide) (fun K hK => ?_)
           have hs43 : w41.cell? ⟨gbA, 3, none⟩ = some (uD) := (blk_cell BKA.out 3).trans rfl
           have hfs43 := blk_frozen BKA.out 3
           have hns43_0 := NBB_A.out
           have hns43_1 := NBE_A.out
           have hms43_0 := NBA_B.out
           have hms43_1 := NBA_E.out
           refine skip_ (w1 := ?_) (by rfl) rfl ?_ ?_
           rotate_left
           ·go_simp
            rfl
           refine hK.out _ _ ?_
           clear hK K
           refine done_ (done_of HT_.out kr) ?_
           try go_wp2
           go_roundg k2
           case measure => have := HK1.out; have := HK2.out; omega
           case rel => exact ⟨(wrap64 (x10_2 + 1)), (yL), (.slice Ao42 yL.length co42), p7, H', ⟨by have := HK1.out; have := HK2.out; omega⟩, ⟨by (with_reducible repeat (first | apply Kd.R_alloc | apply Kd.R_drewN | apply Kd.R_drew)); exact Kd.R_mono (Kd.R_far (p := ⟨gbA, 3, none⟩) (Kd.R_types HO_7.out BKA.out (by decide)) (fun _ hk => hk.2) (.slice Ao42 yL.length co42)) (fun _ hk => hk.1.2)⟩, ⟨by (with_reducible repeat (first | apply Kd.R_alloc | apply Kd.R_drewN | apply Kd.R_drew)); exact Kd.R_mono (Kd.R_far (p := ⟨gbA, 3, none⟩) (Kd.R_types HOV.out BKA.out (by decide)) (fun _ hk => hk.2) (.slice Ao42 yL.length co42)) (fun _ hk => hk.1)⟩, ⟨qK BKB.out⟩, ⟨qK BKE.out⟩, ⟨by (with_reducible repeat (first | refine blk_drewN ?_ _ | refine blk_drew ?_ | refine blk_alloc ?_ _)); refine blk_put (cs := #[.int .i64 a1, .int .i64 (tF.length : Int), .int .i64 a0_0, uD]) ?_ 3 _ rfl; (with_reducible repeat (first | refine blk_drewN ?_ _ | refine blk_drew ?_ | refine blk_alloc ?_ _)); exact BKA.out⟩, ⟨pB⟩⟩
          ·rw [if_neg c35] at H
           exact absurd H (by simp)
         ·rw [if_neg c32] at H
          exact absurd H (by simp)
        ·rw [if_neg c31] at H
         exact absurd H (by simp)
      ·rw [if_neg c16] at H
       have c16b0 : decide (x10_2 < a0_0) = false := decide_eq_false c16
       clear c16
       have H' := Aside0.mk H
       clear H
       have hnb44 := NBB_E.out
       have hnc44 := NBE_B.out
       have hnb45 := NBB_A.out
       have hnc45 := NBA_B.out
       obtain ⟨hcz46_0, hcz46_1, hfz46_0, hfz46_1⟩ := bc2 BKB.out
       go_wp2
       go_roundg k2
       case measure => have := HK1.out; have := HK2.out; omega
       case rel => exact ⟨(wrap64 (x9_1 + 1)), (xD_2), (uD), p7, H', ⟨by have := HK1.out; have := HK2.out; omega⟩, ⟨pR HO_7.out⟩, ⟨pR HO_D.out⟩, ⟨pK BKB.out⟩, ⟨pK BKE.out⟩, ⟨pK BKA.out⟩, ⟨pB⟩⟩
   ·rw [if_neg c15] at H
    have c15b0 : decide (x9_1 < (tF.length : Int)) = false := decide_eq_false c15
    clear c15
    simp only [Option.some.injEq, Prod.mk.injEq] at H
    obtain ⟨rfl, rfl, rfl, rfl⟩ := H
    have hnb47 := NBA_B.out
    have hnc47 := NBB_A.out
    have hnb48 := NBA_E.out
    have hnc48 := NBE_A.out
    obtain ⟨hcz49_0, hcz49_1, hcz49_2, hcz49_3, hfz49_0, hfz49_1, hfz49_2, hfz49_3⟩ := bc4 BKA.out
    have hnb50 := NBE_B.out
    have hnc50 := NBB_E.out
    obtain ⟨hcz51_0, hcz51_1, hcz51_2, hcz51_3, hfz51_0, hfz51_1, hfz51_2, hfz51_3⟩ := bc4 BKE.out
    obtain ⟨Ao52, co52, eo52⟩ := Kd.R_slice HO_D.out
    subst eo52
    go_wp2
    refine bodyPost_ret (results_cell_row rfl _ _ gbE 32 #[.int .i64 a1, .int .i64 (tF.length : Int), .int .i64 a0_0, .slice Ao52 xD_1.length co52] (0, 0) _ rfl (by (with_reducible repeat (first | refine blk_drewN ?_ _ | refine blk_drew ?_ | refine blk_alloc ?_ _)); refine blk_put (cs := #[.int .i64 a1, .int .i64 (tF.length : Int), .int .i64 a0_0, .slice none 0 0]) ?_ 3 _ rfl; (with_reducible repeat (first | refine blk_drewN ?_ _ | refine blk_drew ?_ | refine blk_alloc ?_ _)); refine blk_put (cs := #[.int .i64 a1, .int .i64 (tF.length : Int), .int .i64 0, .slice none 0 0]) ?_ 2 _ rfl; (with_reducible repeat (first | refine blk_drewN ?_ _ | refine blk_drew ?_ | refine blk_alloc ?_ _)); refine blk_put (cs := #[.int .i64 a1, .int .i64 0, .int .i64 0, .slice none 0 0]) ?_ 1 _ rfl; (with_reducible repeat (first | refine blk_drewN ?_ _ | refine blk_drew ?_ | refine blk_alloc ?_ _)); refine blk_put (cs := #[.int .i64 0, .int .i64 0, .int .i64 0, .slice none 0 0]) ?_ 0 _ rfl; exact pK BKE.out) Try.underlying32 rfl kr) rfl ?_
    exact ⟨_, p8, by (with_reducible repeat (first | apply Kd.R_alloc | apply Kd.R_drewN | apply Kd.R_drew)); exact Kd.R_mono (Kd.R_far (p := ⟨gbE, 3, none⟩) (Kd.R_far (p := ⟨gbE, 2, none⟩) (Kd.R_far (p := ⟨gbE, 1, none⟩) (Kd.R_far (p := ⟨gbE, 0, none⟩) (Kd.R_types HO_D.out BKE.out (by decide)) (fun _ hk => hk.2) (.int .i64 a1)) (fun _ hk => hk.2) (.int .i64 (tF.length : Int))) (fun _ hk => hk.2) (.int .i64 a0_0)) (fun _ hk => hk.2) (.slice Ao52 xD_1.length co52)) (fun _ hk => trivial), pB⟩
end Go.Proofs.Ytbhckhblonkajaa.Q
