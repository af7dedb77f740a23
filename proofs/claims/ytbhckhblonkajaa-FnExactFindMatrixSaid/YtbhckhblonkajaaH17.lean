/- Part of a proof: contracts and lemmas that the row's text uses; joined by a program. -/
import Derived.Test.YtbhckhblonkajaaH04
import Derived.Test.YtbhckhblonkajaaH15
import Derived.Test.YtbhckhblonkajaaH16
set_option linter.unusedVariables false
set_option linter.unusedSimpArgs false
namespace Go.Proofs.Ytbhckhblonkajaa.Q
open Go.RowKit Go.Proofs.YtbhckhblonkajaaW.PrintWords Go.Proofs.YtbhckhblonkajaaW.PrintLast Go.Proofs.YtbhckhblonkajaaW.PrintMore
attribute [local go_sem] max2_int min2_int max_two min_two max_three min_three max_four min_four
def spec_l4Matrix.l0 : Nat → Int → Int → Int → List Int → Int → Int → Int → List Int → Option (Int × List Int)
 | 0, _, _, _, _, _, _, _, _ => none
 | k + 1, x0, x1, x2, x3, x10, x11, xB, xA => (spec_FullSet.f x2).bind fun tC => (if x11 ≤ tC then ((spec_CountOf.f k x11).bind fun tD => (if tD = x10 then ((spec_l4Rank.f k x0 x1 x2 x3 x11).bind fun tE => (if tE = x10 then (if xA.length < 17592186044416 then (spec_l4Matrix.l0 k x0 x1 x2 x3 x10 (wrap64 (x11 + 1)) xB (xA ++ [x11])) else (none)) else (spec_l4Matrix.l0 k x0 x1 x2 x3 x10 (wrap64 (x11 + 1)) xB xA))) else (spec_l4Matrix.l0 k x0 x1 x2 x3 x10 (wrap64 (x11 + 1)) xB xA))) else (some (xB, xA)))
def spec_l4Matrix.f (k : Nat) (a0 : Int) (a1 : Int) (a2 : Int) (l3 : List Int) : Option (Int × List Int) := (spec_FullSet.f a2).bind fun tA => ((spec_l4Rank.f k a0 a1 a2 l3 tA).bind fun tB => (spec_l4Matrix.l0 k a0 a1 a2 l3 tB 0 a2 ([] : List Int)))
set_option maxHeartbeats 8000000 in
set_option maxRecDepth 100000 in
theorem spec_l4Matrix.calls (k : Nat) (a0 : Int) (a1 : Int) (a2 : Int) (A3 : Option Addr) (c3 : Nat) (l3 : List Int) (r1 : Int) (r2 : List Int) (w : World) (hr3 : Kd.C (Kd.int .i64) w A3 l3.length l3) (hc3 : l3.length ≤ c3) (h : spec_l4Matrix.f k a0 a1 a2 l3 = some (r1, r2)) :
  Calls Try.prog 44 #[.int .i64 a0, .int .i64 a1, .int .i64 a2, .slice A3 l3.length c3] w fun e w' => ∃ v1_ : Value, e = .returned (.agg #[.int .i64 r1, v1_]) ∧ Kd.R (Kd.int .i64) 3 w' w.heap.size (fun _ => True) v1_ r2 ∧ Below w.heap.size w w' := by
 have hu27 := Try.underlying27
 have HR3 := Aside0.mk hr3
 have HC3 := Aside0.mk hc3
 clear hr3 hc3
 have HB := Aside0.mk (Below.refl w.heap.size w)
 have H : ((spec_FullSet.f a2).bind fun tL => ((spec_l4Rank.f k a0 a1 a2 l3 tL).bind fun tE => (spec_l4Matrix.l0 k a0 a1 a2 l3 tE 0 a2 ([] : List Int)))) = some (r1, r2) := h
 clear h
 replace H := bS H
 obtain ⟨tL, A5, H⟩ := H
 replace H := bS H
 obtain ⟨tE, A6, H⟩ := H
 have H' := Aside0.mk H
 clear H
 go_enter Try.func44, Try.ntmps44
 go_wp2_with (first | (refine bE 8 #[.int .i64 0, .slice none 0 0] 27 ?_; intro gbA hg w7 hbox hb; have BKA := Aside0.mk hbox; have GWA := aZ w hg; have GEA := aZ w hg; replace HB := aH hb; clear hb hbox hg) | (refine bE 9 #[.int .i64 0, .slice none 0 0] 27 ?_; intro gbD hg w8 hbox hb; have BKD := Aside0.mk hbox; have GWD := aZ w hg; have GED := aZ w hg; replace HB := aH hb; have NBA_D := aL BKA hg; have NBD_A := aG BKA hg; replace BKA := aB BKA hb; clear hb hbox hg; have hnb9 := NBD_A.out; have hnc9 := NBA_D.out; obtain ⟨hcz10_0, hcz10_1, hfz10_0, hfz10_1⟩ := bc2 BKD.out) | ((with_reducible refine gate_callee (f := 58) rfl ?_); refine goesL_ (some 19) rfl rfl Try.func58 kr rfl #[.int .i64 a2] rfl p5 ?_; (with_reducible refine (spec_FullSet.calls a2 tL _ A5.out).mono ?_); rintro e w' ⟨rfl, ⟨nd, rfl⟩⟩; refine ⟨_, rfl, ?_⟩) | ((with_reducible refine gate_callee (f := 57) rfl ?_); refine goesL_ (some 20) rfl rfl Try.func57 kr rfl #[.int .i64 a0, .int .i64 a1, .int .i64 a2, .slice A3 l3.length c3, .int .i64 tL] rfl p5 ?_; (with_reducible refine (spec_l4Rank.calls k a0 a1 a2 _ _ l3 tL tE _ ?side1 ?side2 A6.out).mono ?_); (case side1 => exact Kd.C_below HR3.out pB); (case side2 => exact HC3.out); rintro e w11 ⟨rfl, hb⟩; refine ⟨_, rfl, ?_⟩; replace BKA := bF BKA.out hb; replace BKD := Aside0.mk (blk_below (g := gbD) (o := .cells #[.int .i64 a2, .slice none 0 0] 27 (0, 0)) (by (with_reducible repeat (first | refine blk_drewN ?_ _ | refine blk_drew ?_ | refine blk_alloc ?_ _)); refine blk_put (cs := #[.int .i64 a2, .slice none 0 0]) ?_ 1 _ rfl; (with_reducible repeat (first | refine blk_drewN ?_ _ | refine blk_drew ?_ | refine blk_alloc ?_ _)); refine blk_put (cs := #[.int .i64 0, .slice none 0 0]) ?_ 0 _ rfl; exact pK BKD.out) hb); replace HB := aH hb; (try clear hb)))
 go_loopg [11] k (fun kq v11 w' => ∃ (x11_1 : Int) (xB_1 : List Int) (uB : Value), v11 = .int .i64 x11_1 ∧ Aside0 (spec_l4Matrix.l0 kq a0 a1 a2 l3 tE x11_1 a2 xB_1 = some (r1, r2)) ∧ Aside0 (kq ≤ k) ∧ Aside0 (Kd.R (Kd.int .i64) 3 w' w.heap.size (fun _ => True) uB xB_1) ∧ Aside0 (w'.heap[gbA]? = some (.cells #[.int .i64 0, (.slice none 0 0)] 27 (0, 0))) ∧ Aside0 (w'.heap[gbD]? = some (.cells #[.int .i64 a2, uB] 27 (0, 0))) ∧ Aside0 (Below w.heap.size w w'))
 case atStart => exact ⟨(0), (([] : List Int)), (.slice none 0 0), p7, H', ⟨Nat.le_refl _⟩, ⟨by first | exact Kd.R_nil _ _ _ _ _ | exact Kd.N_nil _ _ _ _ _ | exact Kd.V_nil _ _ _ _ _ | exact Kd.Q_nil _ _ _ _ _ | exact Kd.S_nil _ _ _ _ _⟩, ⟨pK BKA.out⟩, ⟨pK BKD.out⟩, ⟨pB⟩⟩
 case round =>
  clear H'
  try clear c3
  try clear hcz10_0
  try clear hcz10_1
  try clear hfz10_0
  try clear hfz10_1
  obtain ⟨x11_1, xB_1, uB, rfl, HA, HK1, HO_B, BKA, BKD, HB⟩ := hrel
  cases gk with
  | zero => exact absurd HA.out (by simp [spec_l4Matrix.l0])
  | succ k1 =>
   have H := HA.out
   clear HA
   simp only [spec_l4Matrix.l0] at H
   replace H := bS H
   obtain ⟨tI, A12, H⟩ := H
   by_cases c13 : x11_1 ≤ tI
   ·rw [if_pos c13] at H
    have c13b0 : decide (x11_1 ≤ tI) = true := decide_eq_true c13
    clear c13
    replace H := bS H
    obtain ⟨tG, A14, H⟩ := H
    by_cases c15 : tG = tE
    ·rw [if_pos c15] at H
     have c15b0 : (tG == tE) = true := beq_iff_eq.mpr c15
     have c15b1 : (tG != tE) = false := bne_eq_false_iff_eq.mpr c15
     clear c15
     replace H := bS H
     obtain ⟨tJ, A16, H⟩ := H
     by_cases c17 : tJ = tE
     ·rw [if_pos c17] at H
      have c17b0 : (tJ == tE) = true := beq_iff_eq.mpr c17
      have c17b1 : (tJ != tE) = false := bne_eq_false_iff_eq.mpr c17
      clear c17
      by_cases c18 : xB_1.length < 17592186044416
      ·rw [if_pos c18] at H
       have LMc18 := Aside0.mk c18
       clear c18
       obtain ⟨yF, hyF⟩ : ∃ y_ : List Int, y_ = (xB_1 ++ [x11_1]) := ⟨_, rfl⟩
       replace H : (spec_l4Matrix.l0 k1 a0 a1 a2 l3 tE (wrap64 (x11_1 + 1)) a2 yF) = some (r1, r2) := yR hyF H
       have NyF := Aside0.mk hyF
       clear hyF
       have H' := Aside0.mk H
       clear H
       go_wp2_with (first | ((with_reducible refine gate_callee (f := 58) rfl ?_); refine goesL_ (some 23) rfl rfl Try.func58 kr rfl #[.int .i64 a2] rfl p5 ?_; (with_reducible refine (spec_FullSet.calls a2 tI _ A12.out).mono ?_); rintro e w' ⟨rfl, ⟨nd, rfl⟩⟩; refine ⟨_, rfl, ?_⟩; (try (rw [drewN_self wr]; generalize hq_ : World.drewN wr _ = wr; have n0_ : Aside0 (Kd.R (Kd.int .i64) 3 wr w.heap.size (fun _ => True) uB xB_1) := ⟨by rw [← hq_]; exact (pR HO_B.out)⟩; have n1_ : Aside0 (wr.heap[gbA]? = some (.cells #[.int .i64 0, .slice none 0 0] 27 (0, 0))) := ⟨by rw [← hq_]; exact (pK BKA.out)⟩; have n2_ : Aside0 (wr.heap[gbD]? = some (.cells #[.int .i64 a2, uB] 27 (0, 0))) := ⟨by rw [← hq_]; exact (pK BKD.out)⟩; have n3_ : Aside0 (Below w.heap.size w wr) := ⟨by rw [← hq_]; exact pB⟩; clear HO_B BKA BKD HB hq_; have HO_B := n0_; have BKA := n1_; have BKD := n2_; have HB := n3_; clear n0_ n1_ n2_ n3_))) | ((with_reducible refine gate_callee (f := 59) rfl ?_); refine goesL_ (some 28) rfl rfl Try.func59 kr rfl #[.int .i64 x11_1] rfl p5 ?_; (with_reducible refine (spec_CountOf.calls k1 x11_1 tG _ A14.out).mono ?_); rintro e w' ⟨rfl, ⟨nd, rfl⟩⟩; refine ⟨_, rfl, ?_⟩; (try (rw [drewN_self wr]; generalize hq_ : World.drewN wr _ = wr; have n0_ : Aside0 (Kd.R (Kd.int .i64) 3 wr w.heap.size (fun _ => True) uB xB_1) := ⟨by rw [← hq_]; exact (pR HO_B.out)⟩; have n1_ : Aside0 (wr.heap[gbA]? = some (.cells #[.int .i64 0, .slice none 0 0] 27 (0, 0))) := ⟨by rw [← hq_]; exact (pK BKA.out)⟩; have n2_ : Aside0 (wr.heap[gbD]? = some (.cells #[.int .i64 a2, uB] 27 (0, 0))) := ⟨by rw [← hq_]; exact (pK BKD.out)⟩; have n3_ : Aside0 (Below w.heap.size w wr) := ⟨by rw [← hq_]; exact pB⟩; clear HO_B BKA BKD HB hq_; have HO_B := n0_; have BKA := n1_; have BKD := n2_; have HB := n3_; clear n0_ n1_ n2_ n3_))) | (go_at_call 57; (with_reducible refine (spec_l4Rank.calls k1 a0 a1 a2 _ _ l3 x11_1 tJ _ ?side1 ?side2 A16.out).mono ?_); (case side1 => exact pC (Kd.C_below HR3.out HB.out)); (case side2 => exact HC3.out); rintro e w19 ⟨rfl, hb⟩; replace HO_B := aR HO_B hb; replace BKA := aB BKA hb; replace BKD := aB BKD hb; replace HB := aH hb; (try clear hb); (try clear hk); have hnb20 := NBD_A.out; have hnc20 := NBA_D.out; obtain ⟨hcz21_0, hcz21_1, hfz21_0, hfz21_1⟩ := bc2 BKD.out) | ((with_reducible refine gate_builtin (b := .append) (xs := #[.tmp 42, .tmp 44]) rfl ?_); at_builtin; refine Kd.R_append (Kd.int .i64) (w0 := w) w.heap.size rfl (.tmp 42) (.tmp 44) 22 3 (.int .i64 0) 8 rfl Try.underlying22 info3 rfl (by decide) (by omega) uB xB_1 x11_1 [.int .i64 x11_1] (fun _ => True) (fun _ => False) rfl rfl ?aP (fun _ hk => hk.elim) ?aF ?aO ?aB ?aS ?aL ?_; (case aP => exact rfl); (case aB => exact pB); (case aF => exact (fun _ _ => trivial)); (case aO => exact (pR HO_B.out)); (case aS => exact (below_size pB)); (case aL => have := LMc18.out; omega); intro vN w22 ho hb hg hat; rw [← NyF.out] at ho; have n0_ := Aside0.mk (blk_grown (g := gbA) (o := .cells #[.int .i64 0, .slice none 0 0] 27 (0, 0)) (pK BKA.out) hg (Kd.R_ne HO_B.out BKA.out (by decide))); have n1_ := Aside0.mk (blk_grown (g := gbD) (o := .cells #[.int .i64 a2, uB] 27 (0, 0)) (pK BKD.out) hg (Kd.R_ne HO_B.out BKD.out (by decide))); have n2_ := Aside0.mk (hb); have n3_ := Aside0.mk (ho); clear BKA; clear BKD; clear HB; clear HO_B; have BKA := n0_; have BKD := n1_; have HB := n2_; have HOM := n3_; clear n0_ n1_ n2_ n3_; clear ho hb hg hat; obtain ⟨Ao23, co23, eo23⟩ := Kd.R_slice HOM.out; subst eo23; obtain ⟨hcz24_0, hcz24_1, hfz24_0, hfz24_1⟩ := bc2 BKD.out))
       go_roundg k1
       case measure => have := HK1.out; omega
       case rel => exact ⟨(wrap64 (x11_1 + 1)), (yF), (.slice Ao23 yF.length co23), p7, H', ⟨by have := HK1.out; omega⟩, ⟨by (with_reducible repeat (first | apply Kd.R_alloc | apply Kd.R_drewN | apply Kd.R_drew)); exact Kd.R_mono (Kd.R_far (p := ⟨gbD, 1, none⟩) (Kd.R_types HOM.out BKD.out (by decide)) (fun _ hk => hk.2) (.slice Ao23 yF.length co23)) (fun _ hk => trivial)⟩, ⟨qK BKA.out⟩, ⟨by (with_reducible repeat (first | refine blk_drewN ?_ _ | refine blk_drew ?_ | refine blk_alloc ?_ _)); refine blk_put (cs := #[.int .i64 a2, uB]) ?_ 1 _ rfl; (with_reducible repeat (first | refine blk_drewN ?_ _ | refine blk_drew ?_ | refine blk_alloc ?_ _)); exact BKD.out⟩, ⟨pB⟩⟩
      ·rw [if_neg c18] at H
       exact absurd H (by simp)
     ·rw [if_neg c17] at H
      have c17b0 : (tJ == tE) = false := beq_eq_false_iff_ne.mpr c17
      have c17b1 : (tJ != tE) = true := bne_iff_ne.mpr c17
      have H' := Aside0.mk H
      clear H
      go_wp2_with (first | ((with_reducible refine gate_callee (f := 58) rfl ?_); refine goesL_ (some 23) rfl rfl Try.func58 kr rfl #[.int .i64 a2] rfl p5 ?_; (with_reducible refine (spec_FullSet.calls a2 tI _ A12.out).mono ?_); rintro e w' ⟨rfl, ⟨nd, rfl⟩⟩; refine ⟨_, rfl, ?_⟩) | ((with_reducible refine gate_callee (f := 59) rfl ?_); refine goesL_ (some 28) rfl rfl Try.func59 kr rfl #[.int .i64 x11_1] rfl p5 ?_; (with_reducible refine (spec_CountOf.calls k1 x11_1 tG _ A14.out).mono ?_); rintro e w' ⟨rfl, ⟨nd, rfl⟩⟩; refine ⟨_, rfl, ?_⟩) | (go_at_call 57; (with_reducible refine (spec_l4Rank.calls k1 a0 a1 a2 _ _ l3 x11_1 tJ _ ?side1 ?side2 A16.out).mono ?_); (case side1 => repeat (first | exact (Kd.C_below HR3.out pB) | (with_reducible refine Kd.C_alloc ?_ _) | (with_reducible refine Kd.C_drewN ?_ _) | (with_reducible refine Kd.C_drew ?_))); (case side2 => exact HC3.out); rintro e w25 ⟨rfl, hb⟩; replace HO_B := aR HO_B hb; replace BKA := aB BKA hb; replace BKD := aB BKD hb; replace HB := aH hb; (try clear hb)))
      go_roundg k1
      case measure => have := HK1.out; omega
      case rel => exact ⟨(wrap64 (x11_1 + 1)), (xB_1), (uB), p7, H', ⟨by have := HK1.out; omega⟩, ⟨pR HO_B.out⟩, ⟨pK BKA.out⟩, ⟨pK BKD.out⟩, ⟨pB⟩⟩
    ·rw [if_neg c15] at H
     have c15b0 : (tG == tE) = false := beq_eq_false_iff_ne.mpr c15
     have c15b1 : (tG != tE) = true := bne_iff_ne.mpr c15
     have H' := Aside0.mk H
     clear H
     go_wp2_with (first | ((with_reducible refine gate_callee (f := 58) rfl ?_); refine goesL_ (some 23) rfl rfl Try.func58 kr rfl #[.int .i64 a2] rfl p5 ?_; (with_reducible refine (spec_FullSet.calls a2 tI _ A12.out).mono ?_); rintro e w' ⟨rfl, ⟨nd, rfl⟩⟩; refine ⟨_, rfl, ?_⟩) | ((with_reducible refine gate_callee (f := 59) rfl ?_); refine goesL_ (some 28) rfl rfl Try.func59 kr rfl #[.int .i64 x11_1] rfl p5 ?_; (with_reducible refine (spec_CountOf.calls k1 x11_1 tG _ A14.out).mono ?_); rintro e w' ⟨rfl, ⟨nd, rfl⟩⟩; refine ⟨_, rfl, ?_⟩))
     go_roundg k1
     case measure => have := HK1.out; omega
     case rel => exact ⟨(wrap64 (x11_1 + 1)), (xB_1), (uB), p7, H', ⟨by have := HK1.out; omega⟩, ⟨pR HO_B.out⟩, ⟨pK BKA.out⟩, ⟨pK BKD.out⟩, ⟨pB⟩⟩
   ·rw [if_neg c13] at H
    have c13b0 : decide (x11_1 ≤ tI) = false := decide_eq_false c13
    clear c13
    simp only [Option.some.injEq, Prod.mk.injEq] at H
    obtain ⟨rfl, rfl⟩ := H
    go_wp2_with (first | ((with_reducible refine gate_callee (f := 58) rfl ?_); refine goesL_ (some 23) rfl rfl Try.func58 kr rfl #[.int .i64 a2] rfl p5 ?_; (with_reducible refine (spec_FullSet.calls a2 tI _ A12.out).mono ?_); rintro e w' ⟨rfl, ⟨nd, rfl⟩⟩; refine ⟨_, rfl, ?_⟩; (try (rw [drewN_self wr]; generalize hq_ : World.drewN wr _ = wr; have n0_ : Aside0 (Kd.R (Kd.int .i64) 3 wr w.heap.size (fun _ => True) uB xB_1) := ⟨by rw [← hq_]; exact (pR HO_B.out)⟩; have n1_ : Aside0 (wr.heap[gbA]? = some (.cells #[.int .i64 0, .slice none 0 0] 27 (0, 0))) := ⟨by rw [← hq_]; exact (pK BKA.out)⟩; have n2_ : Aside0 (wr.heap[gbD]? = some (.cells #[.int .i64 a2, uB] 27 (0, 0))) := ⟨by rw [← hq_]; exact (pK BKD.out)⟩; have n3_ : Aside0 (Below w.heap.size w wr) := ⟨by rw [← hq_]; exact pB⟩; clear HO_B BKA BKD HB hq_; have HO_B := n0_; have BKA := n1_; have BKD := n2_; have HB := n3_; clear n0_ n1_ n2_ n3_)); have hnb26 := NBD_A.out; have hnc26 := NBA_D.out; obtain ⟨hcz27_0, hcz27_1, hfz27_0, hfz27_1⟩ := bc2 BKD.out; obtain ⟨hcz28_0, hcz28_1, hfz28_0, hfz28_1⟩ := bc2 BKA.out; obtain ⟨Ao29, co29, eo29⟩ := Kd.R_slice HO_B.out; subst eo29))
    refine bodyPost_ret (results_cell_row rfl _ _ gbA 27 #[.int .i64 a2, .slice Ao29 xB_1.length co29] (0, 0) _ rfl (by (with_reducible repeat (first | refine blk_drewN ?_ _ | refine blk_drew ?_ | refine blk_alloc ?_ _)); refine blk_put (cs := #[.int .i64 a2, .slice none 0 0]) ?_ 1 _ rfl; (with_reducible repeat (first | refine blk_drewN ?_ _ | refine blk_drew ?_ | refine blk_alloc ?_ _)); refine blk_put (cs := #[.int .i64 0, .slice none 0 0]) ?_ 0 _ rfl; exact pK BKA.out) Try.underlying27 rfl kr) rfl ?_
    exact ⟨_, p8, by (with_reducible repeat (first | apply Kd.R_alloc | apply Kd.R_drewN | apply Kd.R_drew)); exact Kd.R_mono (Kd.R_far (p := ⟨gbA, 1, none⟩) (Kd.R_far (p := ⟨gbA, 0, none⟩) (Kd.R_types HO_B.out BKA.out (by decide)) (fun _ hk => hk.2) (.int .i64 a2)) (fun _ hk => hk.2) (.slice Ao29 xB_1.length co29)) (fun _ hk => trivial), pB⟩
def spec_FromMatrix.f (k : Nat) (a0_0 : Int) (a0_1 : Int) (a0_2 : Int) (l0_3 : List Int) : Option (Int × List Int) := (spec_IsMatrix.f k a0_0 a0_1 a0_2 l0_3).bind fun tB => (if tB = true then ((spec_l4Matrix.f k a0_0 a0_1 a0_2 l0_3).bind fun btA => (some (btA.1, btA.2))) else (some (0, ([] : List Int))))
set_option maxHeartbeats 8000000 in
set_option maxRecDepth 100000 in
theorem spec_FromMatrix.calls (k : Nat) (a0_0 : Int) (a0_1 : Int) (a0_2 : Int) (A0_3 : Option Addr) (c0_3 : Nat) (l0_3 : List Int) (r1 : Int) (r2 : List Int) (w : World) (hr0_3 : Kd.C (Kd.int .i64) w A0_3 l0_3.length l0_3) (hc0_3 : l0_3.length ≤ c0_3) (h : spec_FromMatrix.f k a0_0 a0_1 a0_2 l0_3 = some (r1, r2)) :
  Calls Try.prog 28 #[.agg #[.int .i64 a0_0, .int .i64 a0_1, .int .i64 a0_2, .slice A0_3 l0_3.length c0_3]] w fun e w' => ∃ v1_ : Value, e = .returned (.agg #[.int .i64 r1, v1_]) ∧ Kd.R (Kd.int .i64) 3 w' w.heap.size (fun _ => True) v1_ r2 ∧ Below w.heap.size w w' := by
 have hu32 := Try.underlying32
 have hu27 := Try.underlying27
 have HR0_3 := Aside0.mk hr0_3
 have HC0_3 := Aside0.mk hc0_3
 clear hr0_3 hc0_3
 have HB := Aside0.mk (Below.refl w.heap.size w)
 have H : ((spec_IsMatrix.f k a0_0 a0_1 a0_2 l0_3).bind fun tF => (if tF = true then ((spec_l4Matrix.f k a0_0 a0_1 a0_2 l0_3).bind fun btD => (some (btD.1, btD.2))) else (some (0, ([] : List Int))))) = some (r1, r2) := h
 clear h
 replace H := bS H
 obtain ⟨tF, A2, H⟩ := H
 by_cases c3 : tF = true
 ·subst c3
  replace H := iP H
  replace H := Option.bind_eq_some_iff.mp H
  obtain ⟨⟨tD, tE⟩, A40, H⟩ := H
  replace H : (some (tD, tE)) = some (r1, r2) := H
  have A4 := Aside0.mk A40
  clear A40
  simp only [Option.some.injEq, Prod.mk.injEq] at H
  obtain ⟨rfl, rfl⟩ := H
  go_enter Try.func28, Try.ntmps28
  go_wp2_with (first | (refine bE 1 #[.int .i64 a0_0, .int .i64 a0_1, .int .i64 a0_2, .slice A0_3 l0_3.length c0_3] 32 ?_; intro gbA hg w5 hbox hb; have BKA := Aside0.mk hbox; have GWA := aZ w hg; have GEA := aZ w hg; replace HB := aH hb; clear hb hbox hg) | (refine bE 2 #[.int .i64 0, .slice none 0 0] 27 ?_; intro gbB hg w6 hbox hb; have BKB := Aside0.mk hbox; have GWB := aZ w hg; have GEB := aZ w hg; replace HB := aH hb; have NBA_B := aL BKA hg; have NBB_A := aG BKA hg; replace BKA := aB BKA hb; clear hb hbox hg; have hnb7 := NBA_B.out; have hnc7 := NBB_A.out; obtain ⟨hcz8_0, hcz8_1, hcz8_2, hcz8_3, hfz8_0, hfz8_1, hfz8_2, hfz8_3⟩ := bc4 BKA.out) | ((with_reducible refine gate_callee (f := 43) rfl ?_); refine goesL_ (some 4) rfl rfl Try.func43 kr rfl #[.agg #[.int .i64 a0_0, .int .i64 a0_1, .int .i64 a0_2, .slice A0_3 l0_3.length c0_3]] rfl p5 ?_; (with_reducible refine (spec_IsMatrix.calls k a0_0 a0_1 a0_2 _ _ l0_3 true _ ?side1 ?side2 A2.out).mono ?_); (case side1 => exact pC (Kd.C_below HR0_3.out HB.out)); (case side2 => exact HC0_3.out); rintro e w9 ⟨rfl, hb⟩; refine ⟨_, rfl, ?_⟩; replace BKA := aB BKA hb; replace BKB := aB BKB hb; replace HB := aH hb; (try clear hb); obtain ⟨hcz10_0, hcz10_1, hcz10_2, hcz10_3, hfz10_0, hfz10_1, hfz10_2, hfz10_3⟩ := bc4 BKA.out) | ((with_reducible refine gate_callee (f := 44) rfl ?_); refine goesL_ (some 15) rfl rfl Try.func44 kr rfl #[.int .i64 a0_0, .int .i64 a0_1, .int .i64 a0_2, .slice A0_3 l0_3.length c0_3] rfl p5 ?_; (with_reducible refine (spec_l4Matrix.calls k a0_0 a0_1 a0_2 _ _ l0_3 tD tE _ ?side1 ?side2 A4.out).mono ?_); (case side1 => exact pC (Kd.C_below HR0_3.out HB.out)); (case side2 => exact HC0_3.out); rintro e w11 ⟨vI, rfl, ho0, hb⟩; refine ⟨_, rfl, ?_⟩; have HOG := Aside0.mk (Kd.R_lower ho0 (below_size pB)); replace BKA := aB BKA hb; replace BKB := aB BKB hb; replace HB := aH hb; (try clear hb); (try clear ho0); obtain ⟨hcz12_0, hcz12_1, hfz12_0, hfz12_1⟩ := bc2 BKB.out; obtain ⟨Ao13, co13, eo13⟩ := Kd.R_slice HOG.out; subst eo13))
  refine bodyPost_ret (results_cell_row rfl _ _ gbB 27 #[.int .i64 tD, .slice Ao13 tE.length co13] (0, 0) _ rfl (by (with_reducible repeat (first | refine blk_drewN ?_ _ | refine blk_drew ?_ | refine blk_alloc ?_ _)); refine blk_put (cs := #[.int .i64 tD, .slice none 0 0]) ?_ 1 _ rfl; (with_reducible repeat (first | refine blk_drewN ?_ _ | refine blk_drew ?_ | refine blk_alloc ?_ _)); refine blk_put (cs := #[.int .i64 0, .slice none 0 0]) ?_ 0 _ rfl; exact pK BKB.out) Try.underlying27 rfl kr) rfl ?_
  exact ⟨_, p8, by (with_reducible repeat (first | apply Kd.R_alloc | apply Kd.R_drewN | apply Kd.R_drew)); exact Kd.R_mono (Kd.R_far (p := ⟨gbB, 1, none⟩) (Kd.R_far (p := ⟨gbB, 0, none⟩) (Kd.R_types HOG.out BKB.out (by decide)) (fun _ hk => hk.2) (.int .i64 tD)) (fun _ hk => hk.2) (.slice Ao13 tE.length co13)) (fun _ hk => trivial), pB⟩
 ·replace c3 := Bool.eq_false_iff.mpr c3
  subst c3
  replace H := iN H
  simp only [Option.some.injEq, Prod.mk.injEq] at H
  obtain ⟨rfl, rfl⟩ := H
  go_enter Try.func28, Try.ntmps28
  go_wp2_with (first | (refine bE 1 #[.int .i64 a0_0, .int .i64 a0_1, .int .i64 a0_2, .slice A0_3 l0_3.length c0_3] 32 ?_; intro gbA hg w14 hbox hb; have BKA := Aside0.mk hbox; have GWA := aZ w hg; have GEA := aZ w hg; replace HB := aH hb; clear hb hbox hg) | (refine bE 2 #[.int .i64 0, .slice none 0 0] 27 ?_; intro gbB hg w15 hbox hb; have BKB := Aside0.mk hbox; have GWB := aZ w hg; have GEB := aZ w hg; replace HB := aH hb; have NBA_B := aL BKA hg; have NBB_A := aG BKA hg; replace BKA := aB BKA hb; clear hb hbox hg; have hnb16 := NBA_B.out; have hnc16 := NBB_A.out; obtain ⟨hcz17_0, hcz17_1, hcz17_2, hcz17_3, hfz17_0, hfz17_1, hfz17_2, hfz17_3⟩ := bc4 BKA.out) | ((with_reducible refine gate_callee (f := 43) rfl ?_); refine goesL_ (some 4) rfl rfl Try.func43 kr rfl #[.agg #[.int .i64 a0_0, .int .i64 a0_1, .int .i64 a0_2, .slice A0_3 l0_3.length c0_3]] rfl p5 ?_; (with_reducible refine (spec_IsMatrix.calls k a0_0 a0_1 a0_2 _ _ l0_3 false _ ?side1 ?side2 A2.out).mono ?_); (case side1 => exact pC (Kd.C_below HR0_3.out HB.out)); (case side2 => exact HC0_3.out); rintro e w18 ⟨rfl, hb⟩; refine ⟨_, rfl, ?_⟩; replace BKA := aB BKA hb; replace BKB := aB BKB hb; replace HB := aH hb; (try clear hb); obtain ⟨hcz19_0, hcz19_1, hfz19_0, hfz19_1⟩ := bc2 BKB.out))
  refine bodyPost_ret (results_cell_row rfl _ _ gbB 27 #[.int .i64 0, .slice none 0 0] (0, 0) _ rfl (by (with_reducible repeat (first | refine blk_drewN ?_ _ | refine blk_drew ?_ | refine blk_alloc ?_ _)); refine blk_put (cs := #[.int .i64 0, .slice none 0 0]) ?_ 1 _ rfl; (with_reducible repeat (first | refine blk_drewN ?_ _ | refine blk_drew ?_ | refine blk_alloc ?_ _)); refine blk_put (cs := #[.int .i64 0, .slice none 0 0]) ?_ 0 _ rfl; exact pK BKB.out) Try.underlying27 rfl kr) rfl ?_
  exact ⟨_, p8, p9, pB⟩
def spec_IsFamily.l0 : Nat → Int → List Int → Int → Option (Bool)
 | 0, _, _, _ => none
 | k + 1, x0, x1, x5 => if x5 < (x1.length : Int) then (if 0 ≤ x5 then ((spec_IsSet.f x0 (rd x1 x5)).bind fun tA => (if tA = true then (if x5 > 0 then (if 0 ≤ (wrap64 (x5 - 1)) then (if (wrap64 (x5 - 1)) < (x1.length : Int) then (if (rd x1 (wrap64 (x5 - 1))) ≥ (rd x1 x5) then (some false) else (spec_IsFamily.l0 k x0 x1 (wrap64 (x5 + 1)))) else (none)) else (none)) else (spec_IsFamily.l0 k x0 x1 (wrap64 (x5 + 1)))) else (some false))) else (none)) else ((spec_l1In.f x0 0 8).bind fun tB => (some tB))
def spec_IsFamily.f (k : Nat) (a0 : Int) (l1 : List Int) : Option (Bool) := spec_IsFamily.l0 k a0 l1 0
set_option maxHeartbeats 8000000 in
set_option maxRecDepth 100000 in
theorem spec_IsFamily.calls (k : Nat) (a0 : Int) (A1 : Option Addr) (c1 : Nat) (l1 : List Int) (r : Bool) (w : World) (hr1 : Kd.C (Kd.int .i64) w A1 l1.length l1) (hc1 : l1.length ≤ c1) (h : spec_IsFamily.f k a0 l1 = some r) :
  Calls Try.prog 38 #[.int .i64 a0, .slice A1 l1.length c1] w fun e w' => e = .returned (.bool r) ∧ Drawn0 w w' := by
 have HR1 := Aside0.mk hr1
 have HC1 := Aside0.mk hc1
 clear hr1 hc1
 have H : (spec_IsFamily.l0 k a0 l1 0) = some r := h
 clear h
 have H' := Aside0.mk H
 clear H
 go_enter Try.func38, Try.ntmps38
 go_wp2
 repeat (go_quiet (fail); try go_wp2)
 go_loopg [5] k (fun kq v5 w' => ∃ (x5_1 : Int), v5 = .int .i64 x5_1 ∧ Aside0 (spec_IsFamily.l0 kq a0 l1 x5_1 = some r) ∧ Aside0 (kq ≤ k) ∧ Drawn0 w w')
 case atStart => exact ⟨(0), p7, H', ⟨Nat.le_refl _⟩, by repeat (first | exact Drawn0.refl _ | apply Drawn0.step)⟩
 case round =>
  clear H'
  try clear c1
  obtain ⟨x5_1, rfl, HA, HK1, ⟨m1, rfl⟩⟩ := hrel
  cases gk with
  | zero => exact absurd HA.out (by simp [spec_IsFamily.l0])
  | succ k1 =>
   have H := HA.out
   clear HA
   simp only [spec_IsFamily.l0] at H
   by_cases c3 : x5_1 < (l1.length : Int)
   ·rw [if_pos c3] at H
    have c3b0 : decide (x5_1 < (l1.length : Int)) = true := decide_eq_true c3
    clear c3
    by_cases c4 : 0 ≤ x5_1
    ·rw [if_pos c4] at H
     have c4b0 : decide (0 ≤ x5_1) = true := decide_eq_true c4
     clear c4
     replace H := bS H
     obtain ⟨tF, A5, H⟩ := H
     by_cases c6 : tF = true
     ·subst c6
      replace H := iP H
      by_cases c7 : x5_1 > 0
      ·rw [if_pos c7] at H
       have c7b0 : decide (0 < x5_1) = true := decide_eq_true c7
       clear c7
       obtain ⟨ji8, hji8⟩ : ∃ j_ : Int, (wrap64 (x5_1 - 1)) = j_ := ⟨_, rfl⟩
       replace H : (if 0 ≤ (ji8) then (if (ji8) < (l1.length : Int) then (if (rd l1 (ji8)) ≥ (rd l1 x5_1) then (some false) else (spec_IsFamily.l0 k1 a0 l1 (wrap64 (x5_1 + 1)))) else (none)) else (none)) = some r := jR hji8 H
       (try rw [hji8] at A5)
       have hji8w : (IntKind.i64.wrap (x5_1 - 1)) = ji8 := (i64_w _).trans hji8
       by_cases c9 : 0 ≤ (ji8)
       ·rw [if_pos c9] at H
        have c9b0 : decide (0 ≤ (ji8)) = true := decide_eq_true c9
        clear c9
        by_cases c10 : (ji8) < (l1.length : Int)
        ·rw [if_pos c10] at H
         have c10b0 : decide ((ji8) < (l1.length : Int)) = true := decide_eq_true c10
         clear c10
         by_cases c11 : (rd l1 (ji8)) ≥ (rd l1 x5_1)
         ·rw [if_pos c11] at H
          have c11b0 : decide ((rd l1 x5_1) ≤ (rd l1 (ji8))) = true := decide_eq_true c11
          clear c11
          obtain rfl := Option.some.inj H
          have pD : 0 ≤ (x5_1 : Int) := oD
          have qD : x5_1 < (l1.length : Int) := oD
          obtain ⟨adD, eD, hxD_0⟩ := Kd.at_int HR1.out x5_1 pD qD
          cases eD
          replace pD := eq_true pD
          replace qD := eq_true qD
          go_wp2_with (first | (go_at_call 52; (with_reducible refine (spec_IsSet.calls a0 (rd l1 x5_1) true _ A5.out).mono ?_); rintro e w' ⟨rfl, ⟨nd, rfl⟩⟩; (try first | exact ⟨rfl, _, World.drewN_drewN _ _ _⟩ | exact ⟨rfl, _, Eq.trans (World.drewN_drewN _ _ _) (congrArg (World.drewN _) (Nat.add_assoc _ _ _))⟩); have pA : 0 ≤ ((ji8) : Int) := oD; have qA : (ji8) < (l1.length : Int) := oD; obtain ⟨adA, eA, hxA_0⟩ := Kd.at_int HR1.out (ji8) pA qA; obtain rfl : adD = adA := (by injection eA); replace pA := eq_true pA; replace qA := eq_true qA; have pB : 0 ≤ (x5_1 : Int) := oD; have qB : x5_1 < (l1.length : Int) := oD; obtain ⟨adB, eB, hxB_0⟩ := Kd.at_int HR1.out x5_1 pB qB; obtain rfl : adD = adB := (by injection eB); replace pB := eq_true pB; replace qB := eq_true qB))
          repeat (go_quiet (first | (go_at_call 52; (with_reducible refine (spec_IsSet.calls a0 (rd l1 x5_1) true _ A5.out).mono ?_); rintro e w' ⟨rfl, ⟨nd, rfl⟩⟩; (try first | exact ⟨rfl, _, World.drewN_drewN _ _ _⟩ | exact ⟨rfl, _, Eq.trans (World.drewN_drewN _ _ _) (congrArg (World.drewN _) (Nat.add_assoc _ _ _))⟩); have pA : 0 ≤ ((ji8) : Int) := oD; have qA : (ji8) < (l1.length : Int) := oD; obtain ⟨adA, eA, hxA_0⟩ := Kd.at_int HR1.out (ji8) pA qA; obtain rfl : adD = adA := (by injection eA); replace pA := eq_true pA; replace qA := eq_true qA; have pB : 0 ≤ (x5_1 : Int) := oD; have qB : x5_1 < (l1.length : Int) := oD; obtain ⟨adB, eB, hxB_0⟩ := Kd.at_int HR1.out x5_1 pB qB; obtain rfl : adD = adB := (by injection eB); replace pB := eq_true pB; replace qB := eq_true qB)); try go_wp2_with (first | (go_at_call 52; (with_reducible refine (spec_IsSet.calls a0 (rd l1 x5_1) true _ A5.out).mono ?_); rintro e w' ⟨rfl, ⟨nd, rfl⟩⟩; (try first | exact ⟨rfl, _, World.drewN_drewN _ _ _⟩ | exact ⟨rfl, _, Eq.trans (World.drewN_drewN _ _ _) (congrArg (World.drewN _) (Nat.add_assoc _ _ _))⟩); have pA : 0 ≤ ((ji8) : Int) := oD; have qA : (ji8) < (l1.length : Int) := oD; obtain ⟨adA, eA, hxA_0⟩ := Kd.at_int HR1.out (ji8) pA qA; obtain rfl : adD = adA := (by injection eA); replace pA := eq_true pA; replace qA := eq_true qA; have pB : 0 ≤ (x5_1 : Int) := oD; have qB : x5_1 < (l1.length : Int) := oD; obtain ⟨adB, eB, hxB_0⟩ := Kd.at_int HR1.out x5_1 pB qB; obtain rfl : adD = adB := (by injection eB); replace pB := eq_true pB; replace qB := eq_true qB)))
          go_ret
          exact ⟨by first | rfl | (simp; done) | (simp only [← hji8] <;> (first | rfl | simp)) | (simp [*]; done), by repeat (first | exact Drawn0.refl _ | apply Drawn0.step)⟩
         ·rw [if_neg c11] at H
          have c11b0 : decide ((rd l1 x5_1) ≤ (rd l1 (ji8))) = false := decide_eq_false c11
          clear c11
          have H' := Aside0.mk H
          clear H
          have pD : 0 ≤ (x5_1 : Int) := oD
          have qD : x5_1 < (l1.length : Int) := oD
          obtain ⟨adD, eD, hxD_0⟩ := Kd.at_int HR1.out x5_1 pD qD
          cases eD
          replace pD := eq_true pD
          replace qD := eq_true qD
          go_wp2_with (first | (go_at_call 52; (with_reducible refine (spec_IsSet.calls a0 (rd l1 x5_1) true _ A5.out).mono ?_); rintro e w' ⟨rfl, ⟨nd, rfl⟩⟩; (try first | exact ⟨rfl, _, World.drewN_drewN _ _ _⟩ | exact ⟨rfl, _, Eq.trans (World.drewN_drewN _ _ _) (congrArg (World.drewN _) (Nat.add_assoc _ _ _))⟩); have pA : 0 ≤ ((ji8) : Int) := oD; have qA : (ji8) < (l1.length : Int) := oD; obtain ⟨adA, eA, hxA_0⟩ := Kd.at_int HR1.out (ji8) pA qA; obtain rfl : adD = adA := (by injection eA); replace pA := eq_true pA; replace qA := eq_true qA; have pB : 0 ≤ (x5_1 : Int) := oD; have qB : x5_1 < (l1.length : Int) := oD; obtain ⟨adB, eB, hxB_0⟩ := Kd.at_int HR1.out x5_1 pB qB; obtain rfl : adD = adB := (by injection eB); replace pB := eq_true pB; replace qB := eq_true qB))
          repeat (go_quiet (first | (go_at_call 52; (with_reducible refine (spec_IsSet.calls a0 (rd l1 x5_1) true _ A5.out).mono ?_); rintro e w' ⟨rfl, ⟨nd, rfl⟩⟩; (try first | exact ⟨rfl, _, World.drewN_drewN _ _ _⟩ | exact ⟨rfl, _, Eq.trans (World.drewN_drewN _ _ _) (congrArg (World.drewN _) (Nat.add_assoc _ _ _))⟩); have pA : 0 ≤ ((ji8) : Int) := oD; have qA : (ji8) < (l1.length : Int) := oD; obtain ⟨adA, eA, hxA_0⟩ := Kd.at_int HR1.out (ji8) pA qA; obtain rfl : adD = adA := (by injection eA); replace pA := eq_true pA; replace qA := eq_true qA; have pB : 0 ≤ (x5_1 : Int) := oD; have qB : x5_1 < (l1.length : Int) := oD; obtain ⟨adB, eB, hxB_0⟩ := Kd.at_int HR1.out x5_1 pB qB; obtain rfl : adD = adB := (by injection eB); replace pB := eq_true pB; replace qB := eq_true qB)); try go_wp2_with (first | (go_at_call 52; (with_reducible refine (spec_IsSet.calls a0 (rd l1 x5_1) true _ A5.out).mono ?_); rintro e w' ⟨rfl, ⟨nd, rfl⟩⟩; (try first | exact ⟨rfl, _, World.drewN_drewN _ _ _⟩ | exact ⟨rfl, _, Eq.trans (World.drewN_drewN _ _ _) (congrArg (World.drewN _) (Nat.add_assoc _ _ _))⟩); have pA : 0 ≤ ((ji8) : Int) := oD; have qA : (ji8) < (l1.length : Int) := oD; obtain ⟨adA, eA, hxA_0⟩ := Kd.at_int HR1.out (ji8) pA qA; obtain rfl : adD = adA := (by injection eA); replace pA := eq_true pA; replace qA := eq_true qA; have pB : 0 ≤ (x5_1 : Int) := oD; have qB : x5_1 < (l1.length : Int) := oD; obtain ⟨adB, eB, hxB_0⟩ := Kd.at_int HR1.out x5_1 pB qB; obtain rfl : adD = adB := (by injection eB); replace pB := eq_true pB; replace qB := eq_true qB)))
          go_roundg k1
          case measure => have := HK1.out; omega
          case rel => exact ⟨(wrap64 (x5_1 + 1)), p7, H', ⟨by have := HK1.out; omega⟩, by repeat (first | exact Drawn0.refl _ | apply Drawn0.step)⟩
        ·rw [if_neg c10] at H
         exact absurd H (by simp)
       ·rw [if_neg c9] at H
        exact absurd H (by simp)
      ·rw [if_neg c7] at H
       have c7b0 : decide (0 < x5_1) = false := decide_eq_false c7
       clear c7
       have H' := Aside0.mk H
       clear H
       have pD : 0 ≤ (x5_1 : Int) := oD
       have qD : x5_1 < (l1.length : Int) := oD
       obtain ⟨adD, eD, hxD_0⟩ := Kd.at_int HR1.out x5_1 pD qD
       cases eD
       replace pD := eq_true pD
       replace qD := eq_true qD
       go_wp2_with (first | (go_at_call 52; (with_reducible refine (spec_IsSet.calls a0 (rd l1 x5_1) true _ A5.out).mono ?_); rintro e w' ⟨rfl, ⟨nd, rfl⟩⟩; (try first | exact ⟨rfl, _, World.drewN_drewN _ _ _⟩ | exact ⟨rfl, _, Eq.trans (World.drewN_drewN _ _ _) (congrArg (World.drewN _) (Nat.add_assoc _ _ _))⟩)))
       repeat (go_quiet (first | (go_at_call 52; (with_reducible refine (spec_IsSet.calls a0 (rd l1 x5_1) true _ A5.out).mono ?_); rintro e w' ⟨rfl, ⟨nd, rfl⟩⟩; (try first | exact ⟨rfl, _, World.drewN_drewN _ _ _⟩ | exact ⟨rfl, _, Eq.trans (World.drewN_drewN _ _ _) (congrArg (World.drewN _) (Nat.add_assoc _ _ _))⟩))); try go_wp2_with (first | (go_at_call 52; (with_reducible refine (spec_IsSet.calls a0 (rd l1 x5_1) true _ A5.out).mono ?_); rintro e w' ⟨rfl, ⟨nd, rfl⟩⟩; (try first | exact ⟨rfl, _, World.drewN_drewN _ _ _⟩ | exact ⟨rfl, _, Eq.trans (World.drewN_drewN _ _ _) (congrArg (World.drewN _) (Nat.add_assoc _ _ _))⟩))))
       go_roundg k1
       case measure => have := HK1.out; omega
       case rel => exact ⟨(wrap64 (x5_1 + 1)), p7, H', ⟨by have := HK1.out; omega⟩, by repeat (first | exact Drawn0.refl _ | apply Drawn0.step)⟩
     ·replace c6 := Bool.eq_false_iff.mpr c6
      subst c6
      replace H := iN H
      obtain rfl := Option.some.inj H
      have pD : 0 ≤ (x5_1 : Int) := oD
      have qD : x5_1 < (l1.length : Int) := oD
      obtain ⟨adD, eD, hxD_0⟩ := Kd.at_int HR1.out x5_1 pD qD
      cases eD
      replace pD := eq_true pD
      replace qD := eq_true qD
      go_wp2_with (first | (go_at_call 52; (with_reducible refine (spec_IsSet.calls a0 (rd l1 x5_1) false _ A5.out).mono ?_); rintro e w' ⟨rfl, ⟨nd, rfl⟩⟩; (try first | exact ⟨rfl, _, World.drewN_drewN _ _ _⟩ | exact ⟨rfl, _, Eq.trans (World.drewN_drewN _ _ _) (congrArg (World.drewN _) (Nat.add_assoc _ _ _))⟩)))
      repeat (go_quiet (first | (go_at_call 52; (with_reducible refine (spec_IsSet.calls a0 (rd l1 x5_1) false _ A5.out).mono ?_); rintro e w' ⟨rfl, ⟨nd, rfl⟩⟩; (try first | exact ⟨rfl, _, World.drewN_drewN _ _ _⟩ | exact ⟨rfl, _, Eq.trans (World.drewN_drewN _ _ _) (congrArg (World.drewN _) (Nat.add_assoc _ _ _))⟩))); try go_wp2_with (first | (go_at_call 52; (with_reducible refine (spec_IsSet.calls a0 (rd l1 x5_1) false _ A5.out).mono ?_); rintro e w' ⟨rfl, ⟨nd, rfl⟩⟩; (try first | exact ⟨rfl, _, World.drewN_drewN _ _ _⟩ | exact ⟨rfl, _, Eq.trans (World.drewN_drewN _ _ _) (congrArg (World.drewN _) (Nat.add_assoc _ _ _))⟩))))
      go_ret
      exact ⟨p7, by repeat (first | exact Drawn0.refl _ | apply Drawn0.step)⟩
    ·rw [if_neg c4] at H
     exact absurd H (by simp)
   ·rw [if_neg c3] at H
    have c3b0 : decide (x5_1 < (l1.length : Int)) = false := decide_eq_false c3
    clear c3
    replace H := bS H
    obtain ⟨tE, A12, H⟩ := H
    obtain rfl := Option.some.inj H
    go_wp2_with (first | (go_at_call 53; (with_reducible refine (spec_l1In.calls a0 0 8 tE _ A12.out).mono ?_); rintro e w' ⟨rfl, ⟨nd, rfl⟩⟩; (try first | exact ⟨rfl, _, World.drewN_drewN _ _ _⟩ | exact ⟨rfl, _, Eq.trans (World.drewN_drewN _ _ _) (congrArg (World.drewN _) (Nat.add_assoc _ _ _))⟩)))
    repeat (go_quiet (first | (go_at_call 53; (with_reducible refine (spec_l1In.calls a0 0 8 tE _ A12.out).mono ?_); rintro e w' ⟨rfl, ⟨nd, rfl⟩⟩; (try first | exact ⟨rfl, _, World.drewN_drewN _ _ _⟩ | exact ⟨rfl, _, Eq.trans (World.drewN_drewN _ _ _) (congrArg (World.drewN _) (Nat.add_assoc _ _ _))⟩))); try go_wp2_with (first | (go_at_call 53; (with_reducible refine (spec_l1In.calls a0 0 8 tE _ A12.out).mono ?_); rintro e w' ⟨rfl, ⟨nd, rfl⟩⟩; (try first | exact ⟨rfl, _, World.drewN_drewN _ _ _⟩ | exact ⟨rfl, _, Eq.trans (World.drewN_drewN _ _ _) (congrArg (World.drewN _) (Nat.add_assoc _ _ _))⟩))))
    go_ret
    exact ⟨p7, by repeat (first | exact Drawn0.refl _ | apply Drawn0.step)⟩
def spec_HasSet.l0 : Nat → List Int → Int → Int → Option (Bool)
 | 0, _, _, _ => none
 | k + 1, x0, x1, x5 => if x5 < (x0.length : Int) then (if 0 ≤ x5 then (if (rd x0 x5) = x1 then (some true) else (spec_HasSet.l0 k x0 x1 (wrap64 (x5 + 1)))) else (none)) else (some false)
def spec_HasSet.f (k : Nat) (l0 : List Int) (a1 : Int) : Option (Bool) := spec_HasSet.l0 k l0 a1 0
set_option maxHeartbeats 8000000 in
set_option maxRecDepth 100000 in
theorem spec_HasSet.calls (k : Nat) (A0 : Option Addr) (c0 : Nat) (l0 : List Int) (a1 : Int) (r : Bool) (w : World) (hr0 : Kd.C (Kd.int .i64) w A0 l0.length l0) (hc0 : l0.length ≤ c0) (h : spec_HasSet.f k l0 a1 = some r) :
  Calls Try.prog 55 #[.slice A0 l0.length c0, .int .i64 a1] w fun e w' => e = .returned (.bool r) ∧ Drawn0 w w' := by
 have HR0 := Aside0.mk hr0
 have HC0 := Aside0.mk hc0
 clear hr0 hc0
 have H : (spec_HasSet.l0 k l0 a1 0) = some r := h
 clear h
 have H' := Aside0.mk H
 clear H
 go_enter Try.func55, Try.ntmps55
 go_wp2
 go_loopg [5] k (fun kq v5 w' => ∃ (x5_1 : Int), v5 = .int .i64 x5_1 ∧ Aside0 (spec_HasSet.l0 kq l0 a1 x5_1 = some r) ∧ Aside0 (kq ≤ k) ∧ Drawn0 w w')
 case atStart => exact ⟨(0), p7, H', ⟨Nat.le_refl _⟩, by repeat (first | exact Drawn0.refl _ | apply Drawn0.step)⟩
 case round =>
  clear H'
  obtain ⟨x5_1, rfl, HA, HK1, ⟨m1, rfl⟩⟩ := hrel
  cases gk with
  | zero => exact absurd HA.out (by simp [spec_HasSet.l0])
  | succ k1 =>
   have H := HA.out
   clear HA
   simp only [spec_HasSet.l0] at H
   by_cases c3 : x5_1 < (l0.length : Int)
   ·rw [if_pos c3] at H
    have c3b0 : decide (x5_1 < (l0.length : Int)) = true := decide_eq_true c3
    clear c3
    by_cases c4 : 0 ≤ x5_1
    ·rw [if_pos c4] at H
     have c4b0 : decide (0 ≤ x5_1) = true := decide_eq_true c4
     clear c4
     by_cases c5 : (rd l0 x5_1) = a1
     ·rw [if_pos c5] at H
      have c5b0 : ((rd l0 x5_1) == a1) = true := beq_iff_eq.mpr c5
      have c5b1 : ((rd l0 x5_1) != a1) = false := bne_eq_false_iff_eq.mpr c5
      clear c5
      obtain rfl := Option.some.inj H
      have pA : 0 ≤ (x5_1 : Int) := oD
      have qA : x5_1 < (l0.length : Int) := oD
      obtain ⟨adA, eA, hxA_0⟩ := Kd.at_int HR0.out x5_1 pA qA
      cases eA
      replace pA := eq_true pA
      replace qA := eq_true qA
      go_wp2
      go_ret
      exact ⟨p7, by repeat (first | exact Drawn0.refl _ | apply Drawn0.step)⟩
     ·rw [if_neg c5] at H
      have c5b0 : ((rd l0 x5_1) == a1) = false := beq_eq_false_iff_ne.mpr c5
      have c5b1 : ((rd l0 x5_1) != a1) = true := bne_iff_ne.mpr c5
      have H' := Aside0.mk H
      clear H
      have pA : 0 ≤ (x5_1 : Int) := oD
      have qA : x5_1 < (l0.length : Int) := oD
      obtain ⟨adA, eA, hxA_0⟩ := Kd.at_int HR0.out x5_1 pA qA
      cases eA
      replace pA := eq_true pA
      replace qA := eq_true qA
      go_wp2
      go_roundg k1
      case measure => have := HK1.out; omega
      case rel => exact ⟨(wrap64 (x5_1 + 1)), p7, H', ⟨by have := HK1.out; omega⟩, by repeat (first | exact Drawn0.refl _ | apply Drawn0.step)⟩
    ·rw [if_neg c4] at H
     exact absurd H (by simp)
   ·rw [if_neg c3] at H
    have c3b0 : decide (x5_1 < (l0.length : Int)) = false := decide_eq_false c3
    clear c3
    obtain rfl := Option.some.inj H
    go_wp2
    go_ret
    exact ⟨p7, by repeat (first | exact Drawn0.refl _ | apply Drawn0.step)⟩
def spec_l4Exchange.l0 : Nat → Int → Int → Int → Int → Int → List Int → Option (Bool)
 | 0, _, _, _, _, _, _ => none
 | k + 1, x1, x2, x3, x9, xA, xB => if x9 < xA then ((spec_l2Has.f x2 x9).bind fun tC => (if tC = true then ((spec_l2Has.f x1 x9).bind fun tD => (if tD = true then (spec_l4Exchange.l0 k x1 x2 x3 (wrap64 (x9 + 1)) xA xB) else (if 0 ≤ (IntKind.u64.wrap (x3)) then (if 0 ≤ (IntKind.u64.wrap (x9)) then ((spec_HasSet.f k xB (wrap64 ((wrap64 (x1 - (shl .i64 1 (IntKind.u64.wrap (x3))))) + (shl .i64 1 (IntKind.u64.wrap (x9)))))).bind fun tE => (if tE = true then (some true) else (spec_l4Exchange.l0 k x1 x2 x3 (wrap64 (x9 + 1)) xA xB))) else (none)) else (none)))) else (spec_l4Exchange.l0 k x1 x2 x3 (wrap64 (x9 + 1)) xA xB))) else (some false)
def spec_l4Exchange.f (k : Nat) (a0_0 : Int) (l0_1 : List Int) (a1 : Int) (a2 : Int) (a3 : Int) : Option (Bool) := spec_l4Exchange.l0 k a1 a2 a3 0 a0_0 l0_1
set_option maxHeartbeats 8000000 in
set_option maxRecDepth 100000 in
theorem spec_l4Exchange.calls (k : Nat) (a0_0 : Int) (A0_1 : Option Addr) (c0_1 : Nat) (l0_1 : List Int) (a1 : Int) (a2 : Int) (a3 : Int) (r : Bool) (w : World) (hr0_1 : Kd.C (Kd.int .i64) w A0_1 l0_1.length l0_1) (hc0_1 : l0_1.length ≤ c0_1) (h : spec_l4Exchange.f k a0_0 l0_1 a1 a2 a3 = some r) :
  Calls Try.prog 51 #[.agg #[.int .i64 a0_0, .slice A0_1 l0_1.length c0_1], .int .i64 a1, .int .i64 a2, .int .i64 a3] w fun e w' => e = .returned (.bool r) ∧ Below w.heap.size w w' := by
 have hu27 := Try.underlying27
 have HR0_1 := Aside0.mk hr0_1
 have HC0_1 := Aside0.mk hc0_1
 clear hr0_1 hc0_1
 have HB := Aside0.mk (Below.refl w.heap.size w)
 have H : (spec_l4Exchange.l0 k a1 a2 a3 0 a0_0 l0_1) = some r := h
 clear h
 have H' := Aside0.mk H
 clear H
 go_enter Try.func51, Try.ntmps51
 go_wp2_with (first | (refine bE 4 #[.int .i64 a0_0, .slice A0_1 l0_1.length c0_1] 27 ?_; intro gbA hg w5 hbox hb; have BKA := Aside0.mk hbox; have GWA := aZ w hg; have GEA := aZ w hg; replace HB := aH hb; clear hb hbox hg))
 go_loopg [9] k (fun kq v9 w' => ∃ (x9_1 : Int), v9 = .int .i64 x9_1 ∧ Aside0 (spec_l4Exchange.l0 kq a1 a2 a3 x9_1 a0_0 l0_1 = some r) ∧ Aside0 (kq ≤ k) ∧ Aside0 (w'.heap[gbA]? = some (.cells #[.int .i64 a0_0, (.slice A0_1 l0_1.length c0_1)] 27 (0, 0))) ∧ Aside0 (Below w.heap.size w w'))
 case atStart => exact ⟨(0), p7, H', ⟨Nat.le_refl _⟩, ⟨pK BKA.out⟩, ⟨pB⟩⟩
 case round =>
  clear H'
  obtain ⟨x9_1, rfl, HA, HK1, BKA, HB⟩ := hrel
  cases gk with
  | zero => exact absurd HA.out (by simp [spec_l4Exchange.l0])
  | succ k1 =>
   have H := HA.out
   clear HA
   simp only [spec_l4Exchange.l0] at H
   by_cases c6 : x9_1 < a0_0
   ·rw [if_pos c6] at H
    have c6b0 : decide (x9_1 < a0_0) = true := decide_eq_true c6
    clear c6
    replace H := bS H
    obtain ⟨tD, A7, H⟩ := H
    by_cases c8 : tD = true
    ·subst c8
     replace H := iP H
     replace H := bS H
     obtain ⟨tE, A9, H⟩ := H
     by_cases c10 : tE = true
     ·subst c10
      replace H := iP H
      have H' := Aside0.mk H
      clear H
      obtain ⟨hcz11_0, hcz11_1, hfz11_0, hfz11_1⟩ := bc2 BKA.out
      go_wp2_with (first | ((with_reducible refine gate_callee (f := 40) rfl ?_); refine goesL_ (some 18) rfl rfl Try.func40 kr rfl #[.int .i64 a2, .int .i64 x9_1] rfl p5 ?_; (with_reducible refine (spec_l2Has.calls a2 x9_1 true _ A7.out).mono ?_); rintro e w' ⟨rfl, ⟨nd, rfl⟩⟩; refine ⟨_, rfl, ?_⟩) | (go_at_call 40; (with_reducible refine (spec_l2Has.calls a1 x9_1 true _ A9.out).mono ?_); rintro e w' ⟨rfl, ⟨nd, rfl⟩⟩))
      go_roundg k1
      case measure => have := HK1.out; omega
      case rel => exact ⟨(wrap64 (x9_1 + 1)), p7, H', ⟨by have := HK1.out; omega⟩, ⟨pK BKA.out⟩, ⟨pB⟩⟩
     ·replace c10 := Bool.eq_false_iff.mpr c10
      subst c10
      replace H := iN H
      obtain ⟨ji12, hji12⟩ : ∃ j_ : Int, (IntKind.u64.wrap (a3)) = j_ := ⟨_, rfl⟩
      replace H : (if 0 ≤ (ji12) then (if 0 ≤ (IntKind.u64.wrap (x9_1)) then ((spec_HasSet.f k1 l0_1 (wrap64 ((wrap64 (a1 - (shl .i64 1 (ji12)))) + (shl .i64 1 (IntKind.u64.wrap (x9_1)))))).bind fun tB => (if tB = true then (some true) else (spec_l4Exchange.l0 k1 a1 a2 a3 (wrap64 (x9_1 + 1)) a0_0 l0_1))) else (none)) else (none)) = some r := jR hji12 H
      (try rw [hji12] at A7)
      (try rw [hji12] at A9)
      by_cases c13 : 0 ≤ (ji12)
      ·rw [if_pos c13] at H
       have c13b0 := eq_true c13
       have c13b1 : decide (0 ≤ (ji12)) = true := decide_eq_true c13
       clear c13
       obtain ⟨ji14, hji14⟩ : ∃ j_ : Int, (shl .i64 1 (ji12)) = j_ := ⟨_, rfl⟩
       replace H : (if 0 ≤ (IntKind.u64.wrap (x9_1)) then ((spec_HasSet.f k1 l0_1 (wrap64 ((wrap64 (a1 - (ji14))) + (shl .i64 1 (IntKind.u64.wrap (x9_1)))))).bind fun tB => (if tB = true then (some true) else (spec_l4Exchange.l0 k1 a1 a2 a3 (wrap64 (x9_1 + 1)) a0_0 l0_1))) else (none)) = some r := jR hji14 H
       (try rw [hji14] at A7)
       (try rw [hji14] at A9)
       have hji14_ : (IntKind.i64.wrap (1 * 2 ^ min (ji12).toNat 64)) = ji14 := hji14
       have hji14z : (ji12) ≤ 64 → (IntKind.i64.wrap (1 * 2 ^ (ji12).toNat)) = ji14 := shl_small hji14
       have hji14u : (IntKind.i64.wrap (2 ^ min (ji12).toNat 64)) = ji14 := by have h_ := hji14_; rw [Int.one_mul] at h_; exact h_
       have hji14v : (ji12) ≤ 64 → (IntKind.i64.wrap (2 ^ (ji12).toNat)) = ji14 := fun hle_ => by have h_ := hji14z hle_; rw [Int.one_mul] at h_; exact h_
       have hji14y : (wrap64 (1 * 2 ^ min (ji12).toNat 64)) = ji14 := (i64_w _).symm.trans hji14_
       have hji14x : (ji12) ≤ 64 → (wrap64 (1 * 2 ^ (ji12).toNat)) = ji14 := fun h_ => (i64_w _).symm.trans (hji14z h_)
       obtain ⟨ji15, hji15⟩ : ∃ j_ : Int, (IntKind.u64.wrap (x9_1)) = j_ := ⟨_, rfl⟩
       replace H : (if 0 ≤ (ji15) then ((spec_HasSet.f k1 l0_1 (wrap64 ((wrap64 (a1 - (ji14))) + (shl .i64 1 (ji15))))).bind fun tB => (if tB = true then (some true) else (spec_l4Exchange.l0 k1 a1 a2 a3 (wrap64 (x9_1 + 1)) a0_0 l0_1))) else (none)) = some r := jR hji15 H
       (try rw [hji15] at A7)
       (try rw [hji15] at A9)
       by_cases c16 : 0 ≤ (ji15)
       ·rw [if_pos c16] at H
        have c16b0 := eq_true c16
        have c16b1 : decide (0 ≤ (ji15)) = true := decide_eq_true c16
        clear c16
        obtain ⟨ji17, hji17⟩ : ∃ j_ : Int, (shl .i64 1 (ji15)) = j_ := ⟨_, rfl⟩
        replace H : ((spec_HasSet.f k1 l0_1 (wrap64 ((wrap64 (a1 - (ji14))) + (ji17)))).bind fun tB => (if tB = true then (some true) else (spec_l4Exchange.l0 k1 a1 a2 a3 (wrap64 (x9_1 + 1)) a0_0 l0_1))) = some r := jR hji17 H
        (try rw [hji17] at A7)
        (try rw [hji17] at A9)
        have hji17_ : (IntKind.i64.wrap (1 * 2 ^ min (ji15).toNat 64)) = ji17 := hji17
        have hji17z : (ji15) ≤ 64 → (IntKind.i64.wrap (1 * 2 ^ (ji15).toNat)) = ji17 := shl_small hji17
        have hji17u : (IntKind.i64.wrap (2 ^ min (ji15).toNat 64)) = ji17 := by have h_ := hji17_; rw [Int.one_mul] at h_; exact h_
        have hji17v : (ji15) ≤ 64 → (IntKind.i64.wrap (2 ^ (ji15).toNat)) = ji17 := fun hle_ => by have h_ := hji17z hle_; rw [Int.one_mul] at h_; exact h_
        have hji17y : (wrap64 (1 * 2 ^ min (ji15).toNat 64)) = ji17 := (i64_w _).symm.trans hji17_
        have hji17x : (ji15) ≤ 64 → (wrap64 (1 * 2 ^ (ji15).toNat)) = ji17 := fun h_ => (i64_w _).symm.trans (hji17z h_)
        replace H := bS H
        obtain ⟨tB, A18, H⟩ := H
        by_cases c19 : tB = true
        ·subst c19
         replace H := iP H
         obtain rfl := Option.some.inj H
         obtain ⟨hcz20_0, hcz20_1, hfz20_0, hfz20_1⟩ := bc2 BKA.out
         go_wp2_with (first | ((with_reducible refine gate_callee (f := 40) rfl ?_); refine goesL_ (some 18) rfl rfl Try.func40 kr rfl #[.int .i64 a2, .int .i64 x9_1] rfl p5 ?_; (with_reducible refine (spec_l2Has.calls a2 x9_1 true _ A7.out).mono ?_); rintro e w' ⟨rfl, ⟨nd, rfl⟩⟩; refine ⟨_, rfl, ?_⟩) | (go_at_call 40; (with_reducible refine (spec_l2Has.calls a1 x9_1 false _ A9.out).mono ?_); rintro e w' ⟨rfl, ⟨nd, rfl⟩⟩) | (go_at_call 55; (with_reducible refine (spec_HasSet.calls k1 _ _ l0_1 (wrap64 ((wrap64 (a1 - (ji14))) + (ji17))) true _ ?side1 ?side2 A18.out).mono ?_); (case side1 => repeat (first | exact (Kd.C_below HR0_1.out pB) | (with_reducible refine Kd.C_alloc ?_ _) | (with_reducible refine Kd.C_drewN ?_ _) | (with_reducible refine Kd.C_drew ?_))); (case side2 => exact HC0_1.out); rintro e w' ⟨rfl, ⟨nd, rfl⟩⟩))
         go_ret
         exact ⟨by first | rfl | (simp [errW_none, errW_some] <;> rfl) | (simp only [← hji12, ← hji14, ← hji15, ← hji17]; first | rfl | (simp [errW_none, errW_some] <;> rfl)) | (simp [*, errW_none, errW_some] <;> rfl), pB⟩
        ·replace c19 := Bool.eq_false_iff.mpr c19
         subst c19
         replace H := iN H
         have H' := Aside0.mk H
         clear H
         obtain ⟨hcz21_0, hcz21_1, hfz21_0, hfz21_1⟩ := bc2 BKA.out
         go_wp2_with (first | ((with_reducible refine gate_callee (f := 40) rfl ?_); refine goesL_ (some 18) rfl rfl Try.func40 kr rfl #[.int .i64 a2, .int .i64 x9_1] rfl p5 ?_; (with_reducible refine (spec_l2Has.calls a2 x9_1 true _ A7.out).mono ?_); rintro e w' ⟨rfl, ⟨nd, rfl⟩⟩; refine ⟨_, rfl, ?_⟩) | (go_at_call 40; (with_reducible refine (spec_l2Has.calls a1 x9_1 false _ A9.out).mono ?_); rintro e w' ⟨rfl, ⟨nd, rfl⟩⟩) | (go_at_call 55; (with_reducible refine (spec_HasSet.calls k1 _ _ l0_1 (wrap64 ((wrap64 (a1 - (ji14))) + (ji17))) false _ ?side1 ?side2 A18.out).mono ?_); (case side1 => repeat (first | exact (Kd.C_below HR0_1.out pB) | (with_reducible refine Kd.C_alloc ?_ _) | (with_reducible refine Kd.C_drewN ?_ _) | (with_reducible refine Kd.C_drew ?_))); (case side2 => exact HC0_1.out); rintro e w' ⟨rfl, ⟨nd, rfl⟩⟩))
         go_roundg k1
         case measure => have := HK1.out; omega
         case rel => exact ⟨(wrap64 (x9_1 + 1)), p7, H', ⟨by have := HK1.out; omega⟩, ⟨pK BKA.out⟩, ⟨pB⟩⟩
       ·rw [if_neg c16] at H
        exact absurd H (by simp)
      ·rw [if_neg c13] at H
       exact absurd H (by simp)
    ·replace c8 := Bool.eq_false_iff.mpr c8
     subst c8
     replace H := iN H
     have H' := Aside0.mk H
     clear H
     obtain ⟨hcz22_0, hcz22_1, hfz22_0, hfz22_1⟩ := bc2 BKA.out
     go_wp2_with (first | ((with_reducible refine gate_callee (f := 40) rfl ?_); refine goesL_ (some 18) rfl rfl Try.func40 kr rfl #[.int .i64 a2, .int .i64 x9_1] rfl p5 ?_; (with_reducible refine (spec_l2Has.calls a2 x9_1 false _ A7.out).mono ?_); rintro e w' ⟨rfl, ⟨nd, rfl⟩⟩; refine ⟨_, rfl, ?_⟩))
     go_roundg k1
     case measure => have := HK1.out; omega
     case rel => exact ⟨(wrap64 (x9_1 + 1)), p7, H', ⟨by have := HK1.out; omega⟩, ⟨pK BKA.out⟩, ⟨pB⟩⟩
   ·rw [if_neg c6] at H
    have c6b0 : decide (x9_1 < a0_0) = false := decide_eq_false c6
    clear c6
    obtain rfl := Option.some.inj H
    obtain ⟨hcz23_0, hcz23_1, hfz23_0, hfz23_1⟩ := bc2 BKA.out
    go_wp2
    go_ret
    exact ⟨p8, pB⟩
end Go.Proofs.Ytbhckhblonkajaa.Q
