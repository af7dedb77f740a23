/- Part of a proof: contracts and lemmas that the row's text uses; joined by a program. -/
import Derived.Test.YtbhckhblonkajaaH04
import Derived.Test.YtbhckhblonkajaaH13
import Derived.Test.YtbhckhblonkajaaH14
import Derived.Test.YtbhckhblonkajaaH21
set_option linter.unusedVariables false
set_option linter.unusedSimpArgs false
namespace Go.Proofs.Ytbhckhblonkajaa.Q
open Go.RowKit Go.Proofs.YtbhckhblonkajaaW.PrintWords Go.Proofs.YtbhckhblonkajaaW.PrintLast Go.Proofs.YtbhckhblonkajaaW.PrintMore
attribute [local go_sem] max2_int min2_int max_two min_two max_three min_three max_four min_four
mutual
def laws_FnExactFindMatrix.j0 : Nat → Int → Bool → Bool → Bool → Int → List Int → Int → Int → Int → List Int → Int → List Int → Int → Int → Int → List Int → Option (Bool)
 | 0, _, _, _, _, _, _, _, _, _, _, _, _, _, _, _, _ => none
 | k + 1, x1, x7, x10, x44, xE, xF, xG, xI, xJ, xL, xO, xP, xA, xB, xC, xD => if x44 = true then (some false) else ((laws_toMatroid.f k xE xF).bind fun btQ => ((laws_eqMatroid.f k xO xP btQ.1 btQ.2).bind fun tU => (if tU = true then ((laws_markMatroid.f k xO xP 1).bind fun btV => (if btV.1 < 0 then (laws_FnExactFindMatrix.j1 k x1 x7 true xE xF xG xI xJ xL xA xB xC xD) else ((laws_eqMatrix.f k xA xB xC xD xG xI xJ xL).bind fun tW => (if tW = true then (laws_FnExactFindMatrix.j1 k x1 x7 (x10 != x7) xE xF xG xI xJ xL xA xB xC xD) else (laws_FnExactFindMatrix.j1 k x1 x7 true xE xF xG xI xJ xL xA xB xC xD))))) else (some false))))
def laws_FnExactFindMatrix.j1 : Nat → Int → Bool → Bool → Int → List Int → Int → Int → Int → List Int → Int → Int → Int → List Int → Option (Bool)
 | 0, _, _, _, _, _, _, _, _, _, _, _, _, _ => none
 | k + 1, x1, x7, x65, xE, xF, xG, xI, xJ, xL, xA, xB, xC, xD => if x65 = true then (some false) else ((laws_markMatrix.f k xA xB xC xD 1).bind fun btM => ((laws_heldMatrix.f k xA xB xC btM.2 1).bind fun tR => (if tR < 0 then (some false) else (if tR = btM.1 then ((laws_toMatroid.f k xE xF).bind fun btS => ((impl_FindMatrix.f k btS.1 btS.2 x1).bind fun btN => ((laws_eqMatrix.f k btN.1 btN.2.1 btN.2.2.1 btN.2.2.2.1 xG xI xJ xL).bind fun tX => (if tX = true then (laws_FnExactFindMatrix.j2 k btM.1 (btN.2.2.2.2 != x7) xA xB xC btM.2) else (laws_FnExactFindMatrix.j2 k btM.1 true xA xB xC btM.2))))) else (some false)))))
def laws_FnExactFindMatrix.j2 : Nat → Int → Bool → Int → Int → Int → List Int → Option (Bool)
 | 0, _, _, _, _, _, _ => none
 | k + 1, x12, x92, xA, xB, xC, xD => if x92 = true then (some false) else ((laws_heldMatrix.f k xA xB xC xD 1).bind fun tT => (if tT < 0 then (some false) else (if tT = x12 then (some true) else (some false))))
end
def laws_FnExactFindMatrix.f (k : Nat) (a0_0 : Int) (l0_1 : List Int) (a1 : Int) : Option (Bool) := (laws_szMatroid.f a0_0 l0_1 1048576).bind fun tE => (if tE < 0 then (some true) else ((laws_toMatroid.f k a0_0 l0_1).bind fun btD => ((spec_FindMatrix.f k btD.1 btD.2 a1).bind fun btA => ((laws_toMatroid.f k a0_0 l0_1).bind fun btC => ((impl_FindMatrix.f k btC.1 btC.2 a1).bind fun btB => ((laws_eqMatrix.f k btB.1 btB.2.1 btB.2.2.1 btB.2.2.2.1 btA.1 btA.2.1 btA.2.2.1 btA.2.2.2.1).bind fun tF => (if tF = true then (laws_FnExactFindMatrix.j0 k a1 btA.2.2.2.2 btB.2.2.2.2 (btB.2.2.2.2 != btA.2.2.2.2) a0_0 l0_1 btA.1 btA.2.1 btA.2.2.1 btA.2.2.2.1 btC.1 btC.2 btB.1 btB.2.1 btB.2.2.1 btB.2.2.2.1) else (laws_FnExactFindMatrix.j0 k a1 btA.2.2.2.2 btB.2.2.2.2 true a0_0 l0_1 btA.1 btA.2.1 btA.2.2.1 btA.2.2.2.1 btC.1 btC.2 btB.1 btB.2.1 btB.2.2.1 btB.2.2.2.1))))))))
set_option maxHeartbeats 8000000 in
set_option maxRecDepth 100000 in
theorem laws_FnExactFindMatrix.calls (k : Nat) (a0_0 : Int) (A0_1 : Option Addr) (c0_1 : Nat) (l0_1 : List Int) (a1 : Int) (r : Bool) (w : World) (hr0_1 : Kd.C (Kd.int .i64) w A0_1 l0_1.length l0_1) (hc0_1 : l0_1.length ≤ c0_1) (h : laws_FnExactFindMatrix.f k a0_0 l0_1 a1 = some r) :
  Calls Try.prog 6 #[.agg #[.int .i64 a0_0, .slice A0_1 l0_1.length c0_1], .int .i64 a1] w fun e w' => e = .returned (.bool r) ∧ Below w.heap.size w w' := by
 have hu24 := Try.underlying24
 have hu32 := Try.underlying32
 have hu27 := Try.underlying27
 have HR0_1 := Aside0.mk hr0_1
 have HC0_1 := Aside0.mk hc0_1
 clear hr0_1 hc0_1
 have HB := Aside0.mk (Below.refl w.heap.size w)
 have H : ((laws_szMatroid.f a0_0 l0_1 1048576).bind fun tBb => (if tBb < 0 then (some true) else ((laws_toMatroid.f k a0_0 l0_1).bind fun btBc => ((spec_FindMatrix.f k btBc.1 btBc.2 a1).bind fun btM => ((laws_toMatroid.f k a0_0 l0_1).bind fun btV => ((impl_FindMatrix.f k btV.1 btV.2 a1).bind fun btF => ((laws_eqMatrix.f k btF.1 btF.2.1 btF.2.2.1 btF.2.2.2.1 btM.1 btM.2.1 btM.2.2.1 btM.2.2.2.1).bind fun tAu => (if tAu = true then (laws_FnExactFindMatrix.j0 k a1 btM.2.2.2.2 btF.2.2.2.2 (btF.2.2.2.2 != btM.2.2.2.2) a0_0 l0_1 btM.1 btM.2.1 btM.2.2.1 btM.2.2.2.1 btV.1 btV.2 btF.1 btF.2.1 btF.2.2.1 btF.2.2.2.1) else (laws_FnExactFindMatrix.j0 k a1 btM.2.2.2.2 btF.2.2.2.2 true a0_0 l0_1 btM.1 btM.2.1 btM.2.2.1 btM.2.2.2.1 btV.1 btV.2 btF.1 btF.2.1 btF.2.2.1 btF.2.2.2.1))))))))) = some r := h
 clear h
 replace H := bS H
 obtain ⟨tBb, A3, H⟩ := H
 by_cases c4 : tBb < 0
 ·rw [if_pos c4] at H
  have c4b0 : decide (tBb < 0) = true := decide_eq_true c4
  clear c4
  obtain rfl := Option.some.inj H
  go_enter Try.func6, Try.ntmps6
  go_wp2_with (first | (refine bE 2 #[.int .i64 a0_0, .slice A0_1 l0_1.length c0_1] 24 ?_; intro gbD hg w5 hbox hb; have BKD := Aside0.mk hbox; have GWD := aZ w hg; have GED := aZ w hg; replace HB := aH hb; clear hb hbox hg; obtain ⟨hcz6_0, hcz6_1, hfz6_0, hfz6_1⟩ := bc2 BKD.out) | ((with_reducible refine gate_callee (f := 7) rfl ?_); refine goesL_ (some 18) rfl rfl Try.func7 kr rfl #[.agg #[.int .i64 a0_0, .slice A0_1 l0_1.length c0_1], .int .i64 1048576] rfl p5 ?_; (with_reducible refine (laws_szMatroid.calls a0_0 _ _ l0_1 1048576 tBb _ ?side1 ?side2 A3.out).mono ?_); (case side1 => exact pC (Kd.C_below HR0_1.out HB.out)); (case side2 => exact HC0_1.out); rintro e w7 ⟨rfl, hb⟩; refine ⟨_, rfl, ?_⟩; replace BKD := aB BKD hb; replace HB := aH hb; (try clear hb)))
  go_ret
  exact ⟨p8, pB⟩
 ·rw [if_neg c4] at H
  have c4b0 : decide (tBb < 0) = false := decide_eq_false c4
  clear c4
  replace H := Option.bind_eq_some_iff.mp H
  obtain ⟨⟨tBc, tAw⟩, A80, H⟩ := H
  replace H : ((spec_FindMatrix.f k tBc tAw a1).bind fun btM => ((laws_toMatroid.f k a0_0 l0_1).bind fun btV => ((impl_FindMatrix.f k btV.1 btV.2 a1).bind fun btF => ((laws_eqMatrix.f k btF.1 btF.2.1 btF.2.2.1 btF.2.2.2.1 btM.1 btM.2.1 btM.2.2.1 btM.2.2.2.1).bind fun tAu => (if tAu = true then (laws_FnExactFindMatrix.j0 k a1 btM.2.2.2.2 btF.2.2.2.2 (btF.2.2.2.2 != btM.2.2.2.2) a0_0 l0_1 btM.1 btM.2.1 btM.2.2.1 btM.2.2.2.1 btV.1 btV.2 btF.1 btF.2.1 btF.2.2.1 btF.2.2.2.1) else (laws_FnExactFindMatrix.j0 k a1 btM.2.2.2.2 btF.2.2.2.2 true a0_0 l0_1 btM.1 btM.2.1 btM.2.2.1 btM.2.2.2.1 btV.1 btV.2 btF.1 btF.2.1 btF.2.2.1 btF.2.2.2.1)))))) = some r := H
  have A8 := Aside0.mk A80
  clear A80
  replace H := Option.bind_eq_some_iff.mp H
  obtain ⟨⟨tM, tX, tY, tP, tAd⟩, A90, H⟩ := H
  replace H : ((laws_toMatroid.f k a0_0 l0_1).bind fun btV => ((impl_FindMatrix.f k btV.1 btV.2 a1).bind fun btF => ((laws_eqMatrix.f k btF.1 btF.2.1 btF.2.2.1 btF.2.2.2.1 tM tX tY tP).bind fun tAu => (if tAu = true then (laws_FnExactFindMatrix.j0 k a1 tAd btF.2.2.2.2 (btF.2.2.2.2 != tAd) a0_0 l0_1 tM tX tY tP btV.1 btV.2 btF.1 btF.2.1 btF.2.2.1 btF.2.2.2.1) else (laws_FnExactFindMatrix.j0 k a1 tAd btF.2.2.2.2 true a0_0 l0_1 tM tX tY tP btV.1 btV.2 btF.1 btF.2.1 btF.2.2.1 btF.2.2.2.1))))) = some r := H
  have A9 := Aside0.mk A90
  clear A90
  replace H := Option.bind_eq_some_iff.mp H
  obtain ⟨⟨tV, tW⟩, ABy, H⟩ := H
  replace H : ((impl_FindMatrix.f k tV tW a1).bind fun btF => ((laws_eqMatrix.f k btF.1 btF.2.1 btF.2.2.1 btF.2.2.2.1 tM tX tY tP).bind fun tAu => (if tAu = true then (laws_FnExactFindMatrix.j0 k a1 tAd btF.2.2.2.2 (btF.2.2.2.2 != tAd) a0_0 l0_1 tM tX tY tP tV tW btF.1 btF.2.1 btF.2.2.1 btF.2.2.2.1) else (laws_FnExactFindMatrix.j0 k a1 tAd btF.2.2.2.2 true a0_0 l0_1 tM tX tY tP tV tW btF.1 btF.2.1 btF.2.2.1 btF.2.2.2.1)))) = some r := H
  have A10 := Aside0.mk ABy
  clear ABy
  replace H := Option.bind_eq_some_iff.mp H
  obtain ⟨⟨tF, tQ, tT, tL, tAx⟩, AAi, H⟩ := H
  replace H : ((laws_eqMatrix.f k tF tQ tT tL tM tX tY tP).bind fun tAu => (if tAu = true then (laws_FnExactFindMatrix.j0 k a1 tAd tAx (tAx != tAd) a0_0 l0_1 tM tX tY tP tV tW tF tQ tT tL) else (laws_FnExactFindMatrix.j0 k a1 tAd tAx true a0_0 l0_1 tM tX tY tP tV tW tF tQ tT tL))) = some r := H
  have A11 := Aside0.mk AAi
  clear AAi
  have HC12 := Aside0.mk H
  clear H
  go_enter Try.func6, Try.ntmps6
  go_upto_region 8 with (first | (refine bE 2 #[.int .i64 a0_0, .slice A0_1 l0_1.length c0_1] 24 ?_; intro gbD hg w13 hbox hb; have BKD := Aside0.mk hbox; have GWD := aZ w hg; have GED := aZ w hg; replace HB := aH hb; clear hb hbox hg; obtain ⟨hcz14_0, hcz14_1, hfz14_0, hfz14_1⟩ := bc2 BKD.out) | ((with_reducible refine gate_callee (f := 7) rfl ?_); refine goesL_ (some 18) rfl rfl Try.func7 kr rfl #[.agg #[.int .i64 a0_0, .slice A0_1 l0_1.length c0_1], .int .i64 1048576] rfl p5 ?_; (with_reducible refine (laws_szMatroid.calls a0_0 _ _ l0_1 1048576 tBb _ ?side1 ?side2 A3.out).mono ?_); (case side1 => exact pC (Kd.C_below HR0_1.out HB.out)); (case side2 => exact HC0_1.out); rintro e w15 ⟨rfl, hb⟩; refine ⟨_, rfl, ?_⟩; replace BKD := aB BKD hb; replace HB := aH hb; (try clear hb); (try clear hk); obtain ⟨hcz16_0, hcz16_1, hfz16_0, hfz16_1⟩ := bc2 BKD.out) | ((with_reducible refine gate_callee (f := 9) rfl ?_); refine goesL_ (some 23) rfl rfl Try.func9 kr rfl #[.agg #[.int .i64 a0_0, .slice A0_1 l0_1.length c0_1]] rfl p5 ?_; (with_reducible refine (laws_toMatroid.calls k a0_0 _ _ l0_1 tBc tAw _ ?side1 ?side2 A8.out).mono ?_); (case side1 => exact pC (Kd.C_below HR0_1.out HB.out)); (case side2 => exact HC0_1.out); rintro e w17 ⟨vDx, rfl, ho0, hb⟩; refine ⟨_, rfl, ?_⟩; have HOAg := Aside0.mk (Kd.R_lower ho0 (below_size pB)); replace BKD := aB BKD hb; replace HB := aH hb; (try clear hb); (try clear hk); (try clear ho0); obtain ⟨Ao18, co18, eo18⟩ := Kd.R_slice HOAg.out; subst eo18) | ((with_reducible refine gate_callee (f := 16) rfl ?_); refine goesL_ (some 25) rfl rfl Try.func16 kr rfl #[.agg #[.int .i64 tBc, .slice Ao18 tAw.length co18], .int .i64 a1] rfl p5 ?_; (with_reducible refine (spec_FindMatrix.calls k tBc _ _ tAw a1 tM tX tY tP tAd _ ?side1 ?side2 A9.out).mono ?_); (case side1 => repeat (first | exact (Kd.R_reads' HOAg.out).2.2 | (with_reducible refine Kd.C_alloc ?_ _) | (with_reducible refine Kd.C_drewN ?_ _) | (with_reducible refine Kd.C_drew ?_))); (case side2 => exact (Kd.R_reads' HOAg.out).2.1); rintro e w19 ⟨vDy, rfl, ho0, hb⟩; refine ⟨_, rfl, ?_⟩; have HOAf := Aside0.mk (Kd.R_lower (Kd.R_new' ho0 (Kd.R_lt (pR HOAg.out))) (below_size pB)); replace HOAg := Aside0.mk (Kd.R_elder' (pR HOAg.out) (Kd.R_base ho0) hb); replace BKD := aB BKD hb; replace HB := aH hb; (try clear hb); (try clear hk); (try clear ho0)) | (refine bE 6 #[.int .i64 0, .int .i64 0, .int .i64 0, .slice none 0 0] 32 ?_; intro gbB hg w20 hbox hb; replace HOAg := aR HOAg hb; replace HOAf := aR HOAf hb; have BKB := Aside0.mk hbox; have GWB := aZ w hg; have GEB := aZ w hg; replace HB := aH hb; have NBD_B := aL BKD hg; have NBB_D := aG BKD hg; replace BKD := aB BKD hb; clear hb hbox hg; have hnb21 := NBB_D.out; have hnc21 := NBD_B.out; obtain ⟨hcz22_0, hcz22_1, hcz22_2, hcz22_3, hfz22_0, hfz22_1, hfz22_2, hfz22_3⟩ := bc4 BKB.out; obtain ⟨Ao23, co23, eo23⟩ := Kd.R_slice HOAf.out; subst eo23; obtain ⟨hcz24_0, hcz24_1, hfz24_0, hfz24_1⟩ := bc2 BKD.out) | ((with_reducible refine gate_callee (f := 9) rfl ?_); refine goesL_ (some 29) rfl rfl Try.func9 kr rfl #[.agg #[.int .i64 a0_0, .slice A0_1 l0_1.length c0_1]] rfl p5 ?_; (with_reducible refine (laws_toMatroid.calls k a0_0 _ _ l0_1 tV tW _ ?side1 ?side2 A10.out).mono ?_); (case side1 => exact Kd.C_below HR0_1.out pB); (case side2 => exact HC0_1.out); rintro e w25 ⟨vDz, rfl, ho0, hb⟩; refine ⟨_, rfl, ?_⟩; have HOAl := Aside0.mk (Kd.R_lower (Kd.R_new' (Kd.R_new' ho0 (Kd.R_lt (by (with_reducible repeat (first | apply Kd.R_alloc | apply Kd.R_drewN | apply Kd.R_drew)); exact (Kd.R_mono (Kd.R_far (p := ⟨gbB, 3, none⟩) (Kd.R_far (p := ⟨gbB, 2, none⟩) (Kd.R_far (p := ⟨gbB, 1, none⟩) (Kd.R_far (p := ⟨gbB, 0, none⟩) (Kd.R_types HOAg.out BKB.out (by decide)) (fun _ hk => hk.2) (.int .i64 tM)) (fun _ hk => hk.2) (.int .i64 tX)) (fun _ hk => hk.2) (.int .i64 tY)) (fun _ hk => hk.2) (.slice Ao23 tP.length co23)) (fun _ h_ => h_.1))))) (Kd.R_lt (by (with_reducible repeat (first | apply Kd.R_alloc | apply Kd.R_drewN | apply Kd.R_drew)); exact (Kd.R_mono (Kd.R_far (p := ⟨gbB, 3, none⟩) (Kd.R_far (p := ⟨gbB, 2, none⟩) (Kd.R_far (p := ⟨gbB, 1, none⟩) (Kd.R_far (p := ⟨gbB, 0, none⟩) (Kd.R_types HOAf.out BKB.out (by decide)) (fun _ hk => hk.2) (.int .i64 tM)) (fun _ hk => hk.2) (.int .i64 tX)) (fun _ hk => hk.2) (.int .i64 tY)) (fun _ hk => hk.2) (.slice Ao23 tP.length co23)) (fun _ h_ => h_.1))))) (below_size pB)); replace HOAg := Aside0.mk (Kd.R_elder' (by (with_reducible repeat (first | apply Kd.R_alloc | apply Kd.R_drewN | apply Kd.R_drew)); exact (Kd.R_mono (Kd.R_far (p := ⟨gbB, 3, none⟩) (Kd.R_far (p := ⟨gbB, 2, none⟩) (Kd.R_far (p := ⟨gbB, 1, none⟩) (Kd.R_far (p := ⟨gbB, 0, none⟩) (Kd.R_types HOAg.out BKB.out (by decide)) (fun _ hk => hk.2) (.int .i64 tM)) (fun _ hk => hk.2) (.int .i64 tX)) (fun _ hk => hk.2) (.int .i64 tY)) (fun _ hk => hk.2) (.slice Ao23 tP.length co23)) (fun _ h_ => h_.1))) (Kd.R_base ho0) hb); replace HOAf := Aside0.mk (Kd.R_elder' (by (with_reducible repeat (first | apply Kd.R_alloc | apply Kd.R_drewN | apply Kd.R_drew)); exact (Kd.R_mono (Kd.R_far (p := ⟨gbB, 3, none⟩) (Kd.R_far (p := ⟨gbB, 2, none⟩) (Kd.R_far (p := ⟨gbB, 1, none⟩) (Kd.R_far (p := ⟨gbB, 0, none⟩) (Kd.R_types HOAf.out BKB.out (by decide)) (fun _ hk => hk.2) (.int .i64 tM)) (fun _ hk => hk.2) (.int .i64 tX)) (fun _ hk => hk.2) (.int .i64 tY)) (fun _ hk => hk.2) (.slice Ao23 tP.length co23)) (fun _ h_ => h_.1))) (Kd.R_base ho0) hb); replace BKD := bF BKD.out hb; replace BKB := Aside0.mk (blk_below (g := gbB) (o := .cells #[.int .i64 tM, .int .i64 tX, .int .i64 tY, .slice Ao23 tP.length co23] 32 (0, 0)) (by (with_reducible repeat (first | refine blk_drewN ?_ _ | refine blk_drew ?_ | refine blk_alloc ?_ _)); refine blk_put (cs := #[.int .i64 tM, .int .i64 tX, .int .i64 tY, .slice none 0 0]) ?_ 3 _ rfl; (with_reducible repeat (first | refine blk_drewN ?_ _ | refine blk_drew ?_ | refine blk_alloc ?_ _)); refine blk_put (cs := #[.int .i64 tM, .int .i64 tX, .int .i64 0, .slice none 0 0]) ?_ 2 _ rfl; (with_reducible repeat (first | refine blk_drewN ?_ _ | refine blk_drew ?_ | refine blk_alloc ?_ _)); refine blk_put (cs := #[.int .i64 tM, .int .i64 0, .int .i64 0, .slice none 0 0]) ?_ 1 _ rfl; (with_reducible repeat (first | refine blk_drewN ?_ _ | refine blk_drew ?_ | refine blk_alloc ?_ _)); refine blk_put (cs := #[.int .i64 0, .int .i64 0, .int .i64 0, .slice none 0 0]) ?_ 0 _ rfl; exact pK BKB.out) hb); replace HB := aH hb; (try clear hb); (try clear hk); (try clear ho0)) | (refine bE 8 #[.int .i64 0, .slice none 0 0] 27 ?_; intro gbE hg w26 hbox hb; replace HOAg := aR HOAg hb; replace HOAf := aR HOAf hb; replace HOAl := aR HOAl hb; have BKE := Aside0.mk hbox; have GWE := aZ w hg; have GEE := aZ w hg; replace HB := aH hb; have NBD_E := aL BKD hg; have NBE_D := aG BKD hg; replace BKD := aB BKD hb; have NBB_E := aL BKB hg; have NBE_B := aG BKB hg; replace BKB := aB BKB hb; clear hb hbox hg; have hnb27 := NBE_D.out; have hnc27 := NBD_E.out; have hnb28 := NBE_B.out; have hnc28 := NBB_E.out; obtain ⟨hcz29_0, hcz29_1, hfz29_0, hfz29_1⟩ := bc2 BKE.out; obtain ⟨Ao30, co30, eo30⟩ := Kd.R_slice HOAl.out; subst eo30) | ((with_reducible refine gate_callee (f := 17) rfl ?_); refine goesL_ (some 33) rfl rfl Try.func17 kr rfl #[.agg #[.int .i64 tV, .slice Ao30 tW.length co30], .int .i64 a1] rfl p5 ?_; (with_reducible refine (impl_FindMatrix.calls k tV _ _ tW a1 tF tQ tT tL tAx _ ?side1 ?side2 A11.out).mono ?_); (case side1 => refine (Kd.R_reads' (e := 3) (base := w.heap.size) (ok := fun k_ => ((True ∧ some k_ ≠ (.slice Ao18 tAw.length co18 : Value).ownBlock) ∧ some k_ ≠ (.slice Ao23 tP.length co23 : Value).ownBlock)) (n := tW.length) (c := co30) ?_).2.2; exact (by (with_reducible repeat (first | apply Kd.R_alloc | apply Kd.R_drewN | apply Kd.R_drew)); exact (Kd.R_mono (Kd.R_far (p := ⟨gbE, 1, none⟩) (Kd.R_far (p := ⟨gbE, 0, none⟩) (Kd.R_types HOAl.out BKE.out (by decide)) (fun _ hk => hk.2) (.int .i64 tV)) (fun _ hk => hk.2) (.slice Ao30 tW.length co30)) (fun _ h_ => h_.1)))); (case side2 => exact (Kd.R_reads' HOAl.out).2.1); rintro e w31 ⟨vEa, rfl, ho0, hb⟩; refine ⟨_, rfl, ?_⟩; have HOAq := Aside0.mk (Kd.R_lower (Kd.R_new' (Kd.R_new' (Kd.R_new' ho0 (Kd.R_lt (by (with_reducible repeat (first | apply Kd.R_alloc | apply Kd.R_drewN | apply Kd.R_drew)); exact (Kd.R_mono (Kd.R_far (p := ⟨gbE, 1, none⟩) (Kd.R_far (p := ⟨gbE, 0, none⟩) (Kd.R_types HOAg.out BKE.out (by decide)) (fun _ hk => hk.2) (.int .i64 tV)) (fun _ hk => hk.2) (.slice Ao30 tW.length co30)) (fun _ h_ => h_.1))))) (Kd.R_lt (by (with_reducible repeat (first | apply Kd.R_alloc | apply Kd.R_drewN | apply Kd.R_drew)); exact (Kd.R_mono (Kd.R_far (p := ⟨gbE, 1, none⟩) (Kd.R_far (p := ⟨gbE, 0, none⟩) (Kd.R_types HOAf.out BKE.out (by decide)) (fun _ hk => hk.2) (.int .i64 tV)) (fun _ hk => hk.2) (.slice Ao30 tW.length co30)) (fun _ h_ => h_.1))))) (Kd.R_lt (by (with_reducible repeat (first | apply Kd.R_alloc | apply Kd.R_drewN | apply Kd.R_drew)); exact (Kd.R_mono (Kd.R_far (p := ⟨gbE, 1, none⟩) (Kd.R_far (p := ⟨gbE, 0, none⟩) (Kd.R_types HOAl.out BKE.out (by decide)) (fun _ hk => hk.2) (.int .i64 tV)) (fun _ hk => hk.2) (.slice Ao30 tW.length co30)) (fun _ h_ => h_.1))))) (below_size pB)); replace HOAg := Aside0.mk (Kd.R_elder' (by (with_reducible repeat (first | apply Kd.R_alloc | apply Kd.R_drewN | apply Kd.R_drew)); exact (Kd.R_mono (Kd.R_far (p := ⟨gbE, 1, none⟩) (Kd.R_far (p := ⟨gbE, 0, none⟩) (Kd.R_types HOAg.out BKE.out (by decide)) (fun _ hk => hk.2) (.int .i64 tV)) (fun _ hk => hk.2) (.slice Ao30 tW.length co30)) (fun _ h_ => h_.1))) (Kd.R_base ho0) hb); replace HOAf := Aside0.mk (Kd.R_elder' (by (with_reducible repeat (first | apply Kd.R_alloc | apply Kd.R_drewN | apply Kd.R_drew)); exact (Kd.R_mono (Kd.R_far (p := ⟨gbE, 1, none⟩) (Kd.R_far (p := ⟨gbE, 0, none⟩) (Kd.R_types HOAf.out BKE.out (by decide)) (fun _ hk => hk.2) (.int .i64 tV)) (fun _ hk => hk.2) (.slice Ao30 tW.length co30)) (fun _ h_ => h_.1))) (Kd.R_base ho0) hb); replace HOAl := Aside0.mk (Kd.R_elder' (by (with_reducible repeat (first | apply Kd.R_alloc | apply Kd.R_drewN | apply Kd.R_drew)); exact (Kd.R_mono (Kd.R_far (p := ⟨gbE, 1, none⟩) (Kd.R_far (p := ⟨gbE, 0, none⟩) (Kd.R_types HOAl.out BKE.out (by decide)) (fun _ hk => hk.2) (.int .i64 tV)) (fun _ hk => hk.2) (.slice Ao30 tW.length co30)) (fun _ h_ => h_.1))) (Kd.R_base ho0) hb); replace BKD := bF BKD.out hb; replace BKB := bF BKB.out hb; replace BKE := Aside0.mk (blk_below (g := gbE) (o := .cells #[.int .i64 tV, .slice Ao30 tW.length co30] 27 (0, 0)) (by (with_reducible repeat (first | refine blk_drewN ?_ _ | refine blk_drew ?_ | refine blk_alloc ?_ _)); refine blk_put (cs := #[.int .i64 tV, .slice none 0 0]) ?_ 1 _ rfl; (with_reducible repeat (first | refine blk_drewN ?_ _ | refine blk_drew ?_ | refine blk_alloc ?_ _)); refine blk_put (cs := #[.int .i64 0, .slice none 0 0]) ?_ 0 _ rfl; exact pK BKE.out) hb); replace HB := aH hb; (try clear hb); (try clear hk); (try clear ho0)) | (refine bE 9 #[.int .i64 0, .int .i64 0, .int .i64 0, .slice none 0 0] 32 ?_; intro gbA hg w32 hbox hb; replace HOAg := aR HOAg hb; replace HOAf := aR HOAf hb; replace HOAl := aR HOAl hb; replace HOAq := aR HOAq hb; have BKA := Aside0.mk hbox; have GWA := aZ w hg; have GEA := aZ w hg; replace HB := aH hb; have NBD_A := aL BKD hg; have NBA_D := aG BKD hg; replace BKD := aB BKD hb; have NBB_A := aL BKB hg; have NBA_B := aG BKB hg; replace BKB := aB BKB hb; have NBE_A := aL BKE hg; have NBA_E := aG BKE hg; replace BKE := aB BKE hb; clear hb hbox hg; have hnb33 := NBA_D.out; have hnc33 := NBD_A.out; have hnb34 := NBA_B.out; have hnc34 := NBB_A.out; have hnb35 := NBA_E.out; have hnc35 := NBE_A.out; obtain ⟨hcz36_0, hcz36_1, hcz36_2, hcz36_3, hfz36_0, hfz36_1, hfz36_2, hfz36_3⟩ := bc4 BKA.out; obtain ⟨Ao37, co37, eo37⟩ := Kd.R_slice HOAq.out; subst eo37))
  (try simp only [Act.put, List.setIfInBounds_toArray, List.set_cons_zero, List.set_cons_succ])
  go_cut [44] (fun v44 wc => ∃ (kq : Nat) (x44_11 : Bool), v44 = .bool x44_11 ∧ Aside0 (laws_FnExactFindMatrix.j0 kq a1 tAd tAx x44_11 a0_0 l0_1 tM tX tY tP tV tW tF tQ tT tL = some r) ∧ Aside0 (kq ≤ k) ∧ Aside0 (Kd.R (Kd.int .i64) 3 wc w.heap.size (fun k_ => some k_ ≠ ((.slice Ao30 tW.length co30) : Value).ownBlock ∧ some k_ ≠ ((.slice Ao37 tL.length co37) : Value).ownBlock) (.slice Ao23 tP.length co23) tP) ∧ Aside0 (Kd.R (Kd.int .i64) 3 wc w.heap.size (fun k_ => some k_ ≠ ((.slice Ao23 tP.length co23) : Value).ownBlock ∧ some k_ ≠ ((.slice Ao37 tL.length co37) : Value).ownBlock) (.slice Ao30 tW.length co30) tW) ∧ Aside0 (Kd.R (Kd.int .i64) 3 wc w.heap.size (fun k_ => some k_ ≠ ((.slice Ao23 tP.length co23) : Value).ownBlock ∧ some k_ ≠ ((.slice Ao30 tW.length co30) : Value).ownBlock) (.slice Ao37 tL.length co37) tL) ∧ Aside0 (wc.heap[gbD]? = some (.cells #[.int .i64 a0_0, (.slice A0_1 l0_1.length c0_1)] 24 (0, 0))) ∧ Aside0 (wc.heap[gbB]? = some (.cells #[.int .i64 tM, .int .i64 tX, .int .i64 tY, (.slice Ao23 tP.length co23)] 32 (0, 0))) ∧ Aside0 (wc.heap[gbE]? = some (.cells #[.int .i64 tV, (.slice Ao30 tW.length co30)] 27 (0, 0))) ∧ Aside0 (wc.heap[gbA]? = some (.cells #[.int .i64 tF, .int .i64 tQ, .int .i64 tT, (.slice Ao37 tL.length co37)] 32 (0, 0))) ∧ Aside0 (Below w.heap.size w wc))
  case first =>
   have H := HC12.out
   clear HC12
   replace H := bS H
   obtain ⟨tAu, A38, H⟩ := H
   by_cases c39 : tAu = true
   ·subst c39
    replace H := iP H
    have H' := Aside0.mk H
    clear H
    have hnb40 := NBA_D.out
    have hnc40 := NBD_A.out
    have hnb41 := NBA_B.out
    have hnc41 := NBB_A.out
    have hnb42 := NBA_E.out
    have hnc42 := NBE_A.out
    obtain ⟨hcz43_0, hcz43_1, hcz43_2, hcz43_3, hfz43_0, hfz43_1, hfz43_2, hfz43_3⟩ := bc4 BKA.out
    have hnb44 := NBB_D.out
    have hnc44 := NBD_B.out
    have hnb45 := NBB_E.out
    have hnc45 := NBE_B.out
    obtain ⟨hcz46_0, hcz46_1, hcz46_2, hcz46_3, hfz46_0, hfz46_1, hfz46_2, hfz46_3⟩ := bc4 BKB.out
    go_wp2_with (first | ((with_reducible refine gate_callee (f := 18) rfl ?_); refine goesL_ (some 38) rfl rfl Try.func18 kr rfl #[.agg #[.int .i64 tF, .int .i64 tQ, .int .i64 tT, .slice Ao37 tL.length co37], .agg #[.int .i64 tM, .int .i64 tX, .int .i64 tY, .slice Ao23 tP.length co23]] rfl p5 ?_; (with_reducible refine (laws_eqMatrix.calls k tF tQ tT _ _ tL tM tX tY _ _ tP true _ ?side1 ?side2 ?side3 ?side4 A38.out).mono ?_); (case side1 => refine (Kd.R_reads' (e := 3) (base := w.heap.size) (ok := fun k_ => (((True ∧ some k_ ≠ (.slice Ao18 tAw.length co18 : Value).ownBlock) ∧ some k_ ≠ (.slice Ao23 tP.length co23 : Value).ownBlock) ∧ some k_ ≠ (.slice Ao30 tW.length co30 : Value).ownBlock)) (n := tL.length) (c := co37) ?_).2.2; exact (by (with_reducible repeat (first | apply Kd.R_alloc | apply Kd.R_drewN | apply Kd.R_drew)); exact (Kd.R_mono (Kd.R_far (p := ⟨gbA, 3, none⟩) (Kd.R_far (p := ⟨gbA, 2, none⟩) (Kd.R_far (p := ⟨gbA, 1, none⟩) (Kd.R_far (p := ⟨gbA, 0, none⟩) (Kd.R_types HOAq.out BKA.out (by decide)) (fun _ hk => hk.2) (.int .i64 tF)) (fun _ hk => hk.2) (.int .i64 tQ)) (fun _ hk => hk.2) (.int .i64 tT)) (fun _ hk => hk.2) (.slice Ao37 tL.length co37)) (fun _ h_ => h_.1)))); (case side2 => exact (Kd.R_reads' HOAq.out).2.1); (case side3 => refine (Kd.R_reads' (e := 3) (base := w.heap.size) (ok := fun k_ => (((True ∧ some k_ ≠ (.slice Ao18 tAw.length co18 : Value).ownBlock) ∧ some k_ ≠ (.slice Ao30 tW.length co30 : Value).ownBlock) ∧ some k_ ≠ (.slice Ao37 tL.length co37 : Value).ownBlock)) (n := tP.length) (c := co23) ?_).2.2; exact (by (with_reducible repeat (first | apply Kd.R_alloc | apply Kd.R_drewN | apply Kd.R_drew)); exact (Kd.R_mono (Kd.R_far (p := ⟨gbA, 3, none⟩) (Kd.R_far (p := ⟨gbA, 2, none⟩) (Kd.R_far (p := ⟨gbA, 1, none⟩) (Kd.R_far (p := ⟨gbA, 0, none⟩) (Kd.R_types HOAf.out BKA.out (by decide)) (fun _ hk => hk.2) (.int .i64 tF)) (fun _ hk => hk.2) (.int .i64 tQ)) (fun _ hk => hk.2) (.int .i64 tT)) (fun _ hk => hk.2) (.slice Ao37 tL.length co37)) (fun _ h_ => h_.1)))); (case side4 => exact (Kd.R_reads' HOAf.out).2.1); rintro e w47 ⟨rfl, hb⟩; refine ⟨_, rfl, ?_⟩; replace HOAg := Aside0.mk (Kd.R_below (by (with_reducible repeat (first | apply Kd.R_alloc | apply Kd.R_drewN | apply Kd.R_drew)); exact (Kd.R_mono (Kd.R_far (p := ⟨gbA, 3, none⟩) (Kd.R_far (p := ⟨gbA, 2, none⟩) (Kd.R_far (p := ⟨gbA, 1, none⟩) (Kd.R_far (p := ⟨gbA, 0, none⟩) (Kd.R_types HOAg.out BKA.out (by decide)) (fun _ hk => hk.2) (.int .i64 tF)) (fun _ hk => hk.2) (.int .i64 tQ)) (fun _ hk => hk.2) (.int .i64 tT)) (fun _ hk => hk.2) (.slice Ao37 tL.length co37)) (fun _ h_ => h_.1))) hb); replace HOAf := Aside0.mk (Kd.R_below (by (with_reducible repeat (first | apply Kd.R_alloc | apply Kd.R_drewN | apply Kd.R_drew)); exact (Kd.R_mono (Kd.R_far (p := ⟨gbA, 3, none⟩) (Kd.R_far (p := ⟨gbA, 2, none⟩) (Kd.R_far (p := ⟨gbA, 1, none⟩) (Kd.R_far (p := ⟨gbA, 0, none⟩) (Kd.R_types HOAf.out BKA.out (by decide)) (fun _ hk => hk.2) (.int .i64 tF)) (fun _ hk => hk.2) (.int .i64 tQ)) (fun _ hk => hk.2) (.int .i64 tT)) (fun _ hk => hk.2) (.slice Ao37 tL.length co37)) (fun _ h_ => h_.1))) hb); replace HOAl := Aside0.mk (Kd.R_below (by (with_reducible repeat (first | apply Kd.R_alloc | apply Kd.R_drewN | apply Kd.R_drew)); exact (Kd.R_mono (Kd.R_far (p := ⟨gbA, 3, none⟩) (Kd.R_far (p := ⟨gbA, 2, none⟩) (Kd.R_far (p := ⟨gbA, 1, none⟩) (Kd.R_far (p := ⟨gbA, 0, none⟩) (Kd.R_types HOAl.out BKA.out (by decide)) (fun _ hk => hk.2) (.int .i64 tF)) (fun _ hk => hk.2) (.int .i64 tQ)) (fun _ hk => hk.2) (.int .i64 tT)) (fun _ hk => hk.2) (.slice Ao37 tL.length co37)) (fun _ h_ => h_.1))) hb); replace HOAq := Aside0.mk (Kd.R_below (by (with_reducible repeat (first | apply Kd.R_alloc | apply Kd.R_drewN | apply Kd.R_drew)); exact (Kd.R_mono (Kd.R_far (p := ⟨gbA, 3, none⟩) (Kd.R_far (p := ⟨gbA, 2, none⟩) (Kd.R_far (p := ⟨gbA, 1, none⟩) (Kd.R_far (p := ⟨gbA, 0, none⟩) (Kd.R_types HOAq.out BKA.out (by decide)) (fun _ hk => hk.2) (.int .i64 tF)) (fun _ hk => hk.2) (.int .i64 tQ)) (fun _ hk => hk.2) (.int .i64 tT)) (fun _ hk => hk.2) (.slice Ao37 tL.length co37)) (fun _ h_ => h_.1))) hb); replace BKD := bF BKD.out hb; replace BKB := bF BKB.out hb; replace BKE := bF BKE.out hb; replace BKA := Aside0.mk (blk_below (g := gbA) (o := .cells #[.int .i64 tF, .int .i64 tQ, .int .i64 tT, .slice Ao37 tL.length co37] 32 (0, 0)) (by (with_reducible repeat (first | refine blk_drewN ?_ _ | refine blk_drew ?_ | refine blk_alloc ?_ _)); refine blk_put (cs := #[.int .i64 tF, .int .i64 tQ, .int .i64 tT, .slice none 0 0]) ?_ 3 _ rfl; (with_reducible repeat (first | refine blk_drewN ?_ _ | refine blk_drew ?_ | refine blk_alloc ?_ _)); refine blk_put (cs := #[.int .i64 tF, .int .i64 tQ, .int .i64 0, .slice none 0 0]) ?_ 2 _ rfl; (with_reducible repeat (first | refine blk_drewN ?_ _ | refine blk_drew ?_ | refine blk_alloc ?_ _)); refine blk_put (cs := #[.int .i64 tF, .int .i64 0, .int .i64 0, .slice none 0 0]) ?_ 1 _ rfl; (with_reducible repeat (first | refine blk_drewN ?_ _ | refine blk_drew ?_ | refine blk_alloc ?_ _)); refine blk_put (cs := #[.int .i64 0, .int .i64 0, .int .i64 0, .slice none 0 0]) ?_ 0 _ rfl; exact pK BKA.out) hb); replace HB := aH hb; (try clear hb); (try clear hk)))
    go_meet
    case rel => exact ⟨_, ((tAx != tAd)), p7, H', ⟨by first | omega | exact Nat.le_refl _⟩, ⟨by (with_reducible repeat (first | apply Kd.R_alloc | apply Kd.R_drewN | apply Kd.R_drew)); exact Kd.R_mono HOAf.out (fun _ hk => ⟨hk.1.2, hk.2⟩)⟩, ⟨by (with_reducible repeat (first | apply Kd.R_alloc | apply Kd.R_drewN | apply Kd.R_drew)); exact Kd.R_mono HOAl.out (fun _ hk => ⟨hk.1.2, hk.2⟩)⟩, ⟨by (with_reducible repeat (first | apply Kd.R_alloc | apply Kd.R_drewN | apply Kd.R_drew)); exact Kd.R_mono HOAq.out (fun _ hk => ⟨hk.1.2, hk.2⟩)⟩, ⟨pK BKD.out⟩, ⟨pK BKB.out⟩, ⟨pK BKE.out⟩, ⟨pK BKA.out⟩, ⟨pB⟩⟩
   ·replace c39 := Bool.eq_false_iff.mpr c39
    subst c39
    replace H := iN H
    have H' := Aside0.mk H
    clear H
    have hnb48 := NBA_D.out
    have hnc48 := NBD_A.out
    have hnb49 := NBA_B.out
    have hnc49 := NBB_A.out
    have hnb50 := NBA_E.out
    have hnc50 := NBE_A.out
    obtain ⟨hcz51_0, hcz51_1, hcz51_2, hcz51_3, hfz51_0, hfz51_1, hfz51_2, hfz51_3⟩ := bc4 BKA.out
    have hnb52 := NBB_D.out
    have hnc52 := NBD_B.out
    have hnb53 := NBB_E.out
    have hnc53 := NBE_B.out
    obtain ⟨hcz54_0, hcz54_1, hcz54_2, hcz54_3, hfz54_0, hfz54_1, hfz54_2, hfz54_3⟩ := bc4 BKB.out
    go_wp2_with (first | ((with_reducible refine gate_callee (f := 18) rfl ?_); refine goesL_ (some 38) rfl rfl Try.func18 kr rfl #[.agg #[.int .i64 tF, .int .i64 tQ, .int .i64 tT, .slice Ao37 tL.length co37], .agg #[.int .i64 tM, .int .i64 tX, .int .i64 tY, .slice Ao23 tP.length co23]] rfl p5 ?_; (with_reducible refine (laws_eqMatrix.calls k tF tQ tT _ _ tL tM tX tY _ _ tP false _ ?side1 ?side2 ?side3 ?side4 A38.out).mono ?_); (case side1 => refine (Kd.R_reads' (e := 3) (base := w.heap.size) (ok := fun k_ => (((True ∧ some k_ ≠ (.slice Ao18 tAw.length co18 : Value).ownBlock) ∧ some k_ ≠ (.slice Ao23 tP.length co23 : Value).ownBlock) ∧ some k_ ≠ (.slice Ao30 tW.length co30 : Value).ownBlock)) (n := tL.length) (c := co37) ?_).2.2; exact (by (with_reducible repeat (first | apply Kd.R_alloc | apply Kd.R_drewN | apply Kd.R_drew)); exact (Kd.R_mono (Kd.R_far (p := ⟨gbA, 3, none⟩) (Kd.R_far (p := ⟨gbA, 2, none⟩) (Kd.R_far (p := ⟨gbA, 1, none⟩) (Kd.R_far (p := ⟨gbA, 0, none⟩) (Kd.R_types HOAq.out BKA.out (by decide)) (fun _ hk => hk.2) (.int .i64 tF)) (fun _ hk => hk.2) (.int .i64 tQ)) (fun _ hk => hk.2) (.int .i64 tT)) (fun _ hk => hk.2) (.slice Ao37 tL.length co37)) (fun _ h_ => h_.1)))); (case side2 => exact (Kd.R_reads' HOAq.out).2.1); (case side3 => refine (Kd.R_reads' (e := 3) (base := w.heap.size) (ok := fun k_ => (((True ∧ some k_ ≠ (.slice Ao18 tAw.length co18 : Value).ownBlock) ∧ some k_ ≠ (.slice Ao30 tW.length co30 : Value).ownBlock) ∧ some k_ ≠ (.slice Ao37 tL.length co37 : Value).ownBlock)) (n := tP.length) (c := co23) ?_).2.2; exact (by (with_reducible repeat (first | apply Kd.R_alloc | apply Kd.R_drewN | apply Kd.R_drew)); exact (Kd.R_mono (Kd.R_far (p := ⟨gbA, 3, none⟩) (Kd.R_far (p := ⟨gbA, 2, none⟩) (Kd.R_far (p := ⟨gbA, 1, none⟩) (Kd.R_far (p := ⟨gbA, 0, none⟩) (Kd.R_types HOAf.out BKA.out (by decide)) (fun _ hk => hk.2) (.int .i64 tF)) (fun _ hk => hk.2) (.int .i64 tQ)) (fun _ hk => hk.2) (.int .i64 tT)) (fun _ hk => hk.2) (.slice Ao37 tL.length co37)) (fun _ h_ => h_.1)))); (case side4 => exact (Kd.R_reads' HOAf.out).2.1); rintro e w55 ⟨rfl, hb⟩; refine ⟨_, rfl, ?_⟩; replace HOAg := Aside0.mk (Kd.R_below (by (with_reducible repeat (first | apply Kd.R_alloc | apply Kd.R_drewN | apply Kd.R_drew)); exact (Kd.R_mono (Kd.R_far (p := ⟨gbA, 3, none⟩) (Kd.R_far (p := ⟨gbA, 2, none⟩) (Kd.R_far (p := ⟨gbA, 1, none⟩) (Kd.R_far (p := ⟨gbA, 0, none⟩) (Kd.R_types HOAg.out BKA.out (by decide)) (fun _ hk => hk.2) (.int .i64 tF)) (fun _ hk => hk.2) (.int .i64 tQ)) (fun _ hk => hk.2) (.int .i64 tT)) (fun _ hk => hk.2) (.slice Ao37 tL.length co37)) (fun _ h_ => h_.1))) hb); replace HOAf := Aside0.mk (Kd.R_below (by (with_reducible repeat (first | apply Kd.R_alloc | apply Kd.R_drewN | apply Kd.R_drew)); exact (Kd.R_mono (Kd.R_far (p := ⟨gbA, 3, none⟩) (Kd.R_far (p := ⟨gbA, 2, none⟩) (Kd.R_far (p := ⟨gbA, 1, none⟩) (Kd.R_far (p := ⟨gbA, 0, none⟩) (Kd.R_types HOAf.out BKA.out (by decide)) (fun _ hk => hk.2) (.int .i64 tF)) (fun _ hk => hk.2) (.int .i64 tQ)) (fun _ hk => hk.2) (.int .i64 tT)) (fun _ hk => hk.2) (.slice Ao37 tL.length co37)) (fun _ h_ => h_.1))) hb); replace HOAl := Aside0.mk (Kd.R_below (by (with_reducible repeat (first | apply Kd.R_alloc | apply Kd.R_drewN | apply Kd.R_drew)); exact (Kd.R_mono (Kd.R_far (p := ⟨gbA, 3, none⟩) (Kd.R_far (p := ⟨gbA, 2, none⟩) (Kd.R_far (p := ⟨gbA, 1, none⟩) (Kd.R_far (p := ⟨gbA, 0, none⟩) (Kd.R_types HOAl.out BKA.out (by decide)) (fun _ hk => hk.2) (.int .i64 tF)) (fun _ hk => hk.2) (.int .i64 tQ)) (fun _ hk => hk.2) (.int .i64 tT)) (fun _ hk => hk.2) (.slice Ao37 tL.length co37)) (fun _ h_ => h_.1))) hb); replace HOAq := Aside0.mk (Kd.R_below (by (with_reducible repeat (first | apply Kd.R_alloc | apply Kd.R_drewN | apply Kd.R_drew)); exact (Kd.R_mono (Kd.R_far (p := ⟨gbA, 3, none⟩) (Kd.R_far (p := ⟨gbA, 2, none⟩) (Kd.R_far (p := ⟨gbA, 1, none⟩) (Kd.R_far (p := ⟨gbA, 0, none⟩) (Kd.R_types HOAq.out BKA.out (by decide)) (fun _ hk => hk.2) (.int .i64 tF)) (fun _ hk => hk.2) (.int .i64 tQ)) (fun _ hk => hk.2) (.int .i64 tT)) (fun _ hk => hk.2) (.slice Ao37 tL.length co37)) (fun _ h_ => h_.1))) hb); replace BKD := bF BKD.out hb; replace BKB := bF BKB.out hb; replace BKE := bF BKE.out hb; replace BKA := Aside0.mk (blk_below (g := gbA) (o := .cells #[.int .i64 tF, .int .i64 tQ, .int .i64 tT, .slice Ao37 tL.length co37] 32 (0, 0)) (by (with_reducible repeat (first | refine blk_drewN ?_ _ | refine blk_drew ?_ | refine blk_alloc ?_ _)); refine blk_put (cs := #[.int .i64 tF, .int .i64 tQ, .int .i64 tT, .slice none 0 0]) ?_ 3 _ rfl; (with_reducible repeat (first | refine blk_drewN ?_ _ | refine blk_drew ?_ | refine blk_alloc ?_ _)); refine blk_put (cs := #[.int .i64 tF, .int .i64 tQ, .int .i64 0, .slice none 0 0]) ?_ 2 _ rfl; (with_reducible repeat (first | refine blk_drewN ?_ _ | refine blk_drew ?_ | refine blk_alloc ?_ _)); refine blk_put (cs := #[.int .i64 tF, .int .i64 0, .int .i64 0, .slice none 0 0]) ?_ 1 _ rfl; (with_reducible repeat (first | refine blk_drewN ?_ _ | refine blk_drew ?_ | refine blk_alloc ?_ _)); refine blk_put (cs := #[.int .i64 0, .int .i64 0, .int .i64 0, .slice none 0 0]) ?_ 0 _ rfl; exact pK BKA.out) hb); replace HB := aH hb; (try clear hb); (try clear hk)))
    go_meet
    case rel => exact ⟨_, (true), p7, H', ⟨by first | omega | exact Nat.le_refl _⟩, ⟨by (with_reducible repeat (first | apply Kd.R_alloc | apply Kd.R_drewN | apply Kd.R_drew)); exact Kd.R_mono HOAf.out (fun _ hk => ⟨hk.1.2, hk.2⟩)⟩, ⟨by (with_reducible repeat (first | apply Kd.R_alloc | apply Kd.R_drewN | apply Kd.R_drew)); exact Kd.R_mono HOAl.out (fun _ hk => ⟨hk.1.2, hk.2⟩)⟩, ⟨by (with_reducible repeat (first | apply Kd.R_alloc | apply Kd.R_drewN | apply Kd.R_drew)); exact Kd.R_mono HOAq.out (fun _ hk => ⟨hk.1.2, hk.2⟩)⟩, ⟨pK BKD.out⟩, ⟨pK BKB.out⟩, ⟨pK BKE.out⟩, ⟨pK BKA.out⟩, ⟨pB⟩⟩
  case rest =>
   clear HC12
   try clear c4
   try clear c4b0
   try clear hcz14_0
   try clear hcz14_1
   try clear hcz16_0
   try clear hcz16_1
   try clear hcz22_0
   try clear hcz22_1
   try clear hcz22_2
   try clear hcz22_3
   try clear hcz24_0
   try clear hcz24_1
   try clear hcz29_0
   try clear hcz29_1
   try clear hcz36_0
   try clear hcz36_1
   try clear hcz36_2
   try clear hcz36_3
   try clear hfz14_0
   try clear hfz14_1
   try clear hfz16_0
   try clear hfz16_1
   try clear hfz22_0
   try clear hfz22_1
   try clear hfz22_2
   try clear hfz22_3
   try clear hfz24_0
   try clear hfz24_1
   try clear hfz29_0
   try clear hfz29_1
   try clear hfz36_0
   try clear hfz36_1
   try clear hfz36_2
   try clear hfz36_3
   obtain ⟨kq, x44_11, rfl, HA, HJ11, HO_O, HO_J, HO_I, BKD, BKB, BKE, BKA, HB⟩ := hcut
   cases kq with
   | zero => exact absurd HA.out (by simp [laws_FnExactFindMatrix.j0])
   | succ kj11 =>
    have H := HA.out
    clear HA
    simp only [laws_FnExactFindMatrix.j0] at H
    by_cases c56 : x44_11 = true
    ·subst c56
     replace H := iP H
     obtain rfl := Option.some.inj H
     go_wp2
     go_ret
     exact ⟨p8, pB⟩
    ·replace c56 := Bool.eq_false_iff.mpr c56
     subst c56
     replace H := iN H
     replace H := Option.bind_eq_some_iff.mp H
     obtain ⟨⟨tBd, tAy⟩, ACd, H⟩ := H
     replace H : ((laws_eqMatroid.f kj11 tV tW tBd tAy).bind fun tBz => (if tBz = true then ((laws_markMatroid.f kj11 tV tW 1).bind fun btBe => (if btBe.1 < 0 then (laws_FnExactFindMatrix.j1 kj11 a1 tAd true a0_0 l0_1 tM tX tY tP tF tQ tT tL) else ((laws_eqMatrix.f kj11 tF tQ tT tL tM tX tY tP).bind fun tBv => (if tBv = true then (laws_FnExactFindMatrix.j1 kj11 a1 tAd (tAx != tAd) a0_0 l0_1 tM tX tY tP tF tQ tT tL) else (laws_FnExactFindMatrix.j1 kj11 a1 tAd true a0_0 l0_1 tM tX tY tP tF tQ tT tL))))) else (some false))) = some r := H
     have A57 := Aside0.mk ACd
     clear ACd
     replace H := bS H
     obtain ⟨tBz, A58, H⟩ := H
     by_cases c59 : tBz = true
     ·subst c59
      replace H := iP H
      replace H := Option.bind_eq_some_iff.mp H
      obtain ⟨⟨tBe, tAm⟩, ACe, H⟩ := H
      replace H : (if tBe < 0 then (laws_FnExactFindMatrix.j1 kj11 a1 tAd true a0_0 l0_1 tM tX tY tP tF tQ tT tL) else ((laws_eqMatrix.f kj11 tF tQ tT tL tM tX tY tP).bind fun tBv => (if tBv = true then (laws_FnExactFindMatrix.j1 kj11 a1 tAd (tAx != tAd) a0_0 l0_1 tM tX tY tP tF tQ tT tL) else (laws_FnExactFindMatrix.j1 kj11 a1 tAd true a0_0 l0_1 tM tX tY tP tF tQ tT tL)))) = some r := H
      have A60 := Aside0.mk ACe
      clear ACe
      have HC61 := Aside0.mk H
      clear H
      try go_wp2
      replace HO_O := Aside0.mk (Kd.R_drew HO_O.out)
      replace HO_J := Aside0.mk (Kd.R_drew HO_J.out)
      replace HO_I := Aside0.mk (Kd.R_drew HO_I.out)
      replace BKD := Aside0.mk (blk_drew BKD.out)
      replace BKB := Aside0.mk (blk_drew BKB.out)
      replace BKE := Aside0.mk (blk_drew BKE.out)
      replace BKA := Aside0.mk (blk_drew BKA.out)
      replace HB := Aside0.mk (below_drew1 HB.out)
      refine start_ (n := 5) (S := fun w' => w'.cell? ⟨gbE, 0, none⟩ = some (.int .i64 tV) ∧ w'.cell? ⟨gbE, 1, none⟩ = some (.slice Ao30 tW.length co30) ∧ w'.cell? ⟨gbD, 0, none⟩ = some (.int .i64 a0_0) ∧ w'.cell? ⟨gbD, 1, none⟩ = some (.slice A0_1 l0_1.length c0_1)) (ds := []) #[false, false, false, false, false] kr rfl rfl ⟨(blk_cell BKE.out 0).trans rfl, (blk_cell BKE.out 1).trans rfl, (blk_cell BKD.out 0).trans rfl, (blk_cell BKD.out 1).trans rfl⟩ (fun hHeld => ?_)
      generalize wc.drew = w62 at HO_O HO_J HO_I BKD BKB BKE BKA HB hHeld ⊢
      refine tA4 0 45 kr hHeld ?_
      refine tA4 1 46 kr hHeld ?_
      refine one_ (i := 2) (N := some 47) #[true, true, true, false, false] rfl rfl kr (by decide) (fun K hK => ?_)
      refine goes_ Try.func9 kr rfl #[.agg #[.int .i64 a0_0, .slice A0_1 l0_1.length c0_1]] (by rfl) rfl rfl p5 ?_
      with_reducible refine (laws_toMatroid.calls kj11 a0_0 _ _ l0_1 tBd tAy _ ?side1 ?side2 A57.out).mono ?_
      (case side1 => exact pC (Kd.C_below HR0_1.out HB.out))
      (case side2 => exact HC0_1.out)
      rintro e w63 ⟨vCj, rfl, ho0, hb⟩
      refine ⟨_, rfl, ?_⟩
      have HOAj := Aside0.mk (Kd.R_lower (Kd.R_new' (Kd.R_new' (Kd.R_new' ho0 (Kd.R_lt (pR HO_O.out))) (Kd.R_lt (pR HO_J.out))) (Kd.R_lt (pR HO_I.out))) (below_size pB))
      replace HO_O := Aside0.mk (Kd.R_elder' (pR HO_O.out) (Kd.R_base ho0) hb)
      replace HO_J := Aside0.mk (Kd.R_elder' (pR HO_J.out) (Kd.R_base ho0) hb)
      replace HO_I := Aside0.mk (Kd.R_elder' (pR HO_I.out) (Kd.R_base ho0) hb)
      replace BKD := aB BKD hb
      replace BKB := aB BKB hb
      replace BKE := aB BKE hb
      replace BKA := aB BKA hb
      replace HB := aH hb
      (try clear hb)
      (try clear hb2)
      (try clear hk)
      (try clear hi)
      (try clear ho0)
      obtain ⟨Ao64, co64, eo64⟩ := Kd.R_slice HOAj.out
      (first | subst eo64 | (injection eo64 with f1_ f2_ f3_; have f4_ := f1_.symm; have f5_ := f3_.symm; clear f1_ f2_ f3_; subst f4_; subst f5_))
      refine hK.out _ _ ⟨(blk_cell BKE.out 0).trans rfl, (blk_cell BKE.out 1).trans rfl, (blk_cell BKD.out 0).trans rfl, (blk_cell BKD.out 1).trans rfl⟩ (fun hHeld => ?_)
      clear hK K
      refine norm_ (a' := ?_) ?_ ?_
      rotate_left
      ·show Act.put _ (some 47) _ = _
       simp only [Act.put, List.setIfInBounds_toArray, List.set_cons_zero, List.set_cons_succ, i64_w, i32_w]
       rfl
      refine one_ (i := 3) (N := some 48) #[true, true, true, true, false] rfl rfl kr (by decide) (fun K hK => ?_)
      refine goes_ Try.func11 kr rfl #[.agg #[.int .i64 tV, .slice Ao30 tW.length co30], .agg #[.int .i64 tBd, .slice Ao64 tAy.length co64]] (by rfl) rfl rfl p5 ?_
      with_reducible refine (laws_eqMatroid.calls kj11 tV _ _ tW tBd _ _ tAy true _ ?side1 ?side2 ?side3 ?side4 A58.out).mono ?_
      (case side1 => repeat (first | exact (Kd.R_reads' HO_J.out).2.2 | (with_reducible refine Kd.C_alloc ?_ _) | (with_reducible refine Kd.C_drewN ?_ _) | (with_reducible refine Kd.C_drew ?_)))
      (case side2 => exact (Kd.R_reads' HO_J.out).2.1)
      (case side3 => repeat (first | exact (Kd.R_reads' HOAj.out).2.2 | (with_reducible refine Kd.C_alloc ?_ _) | (with_reducible refine Kd.C_drewN ?_ _) | (with_reducible refine Kd.C_drew ?_)))
      (case side4 => exact (Kd.R_reads' HOAj.out).2.1)
      rintro e w65 ⟨rfl, hb⟩
      refine ⟨_, rfl, ?_⟩
      replace HO_O := aR HO_O hb
      replace HO_J := aR HO_J hb
      replace HO_I := aR HO_I hb
      replace HOAj := aR HOAj hb
      replace BKD := aB BKD hb
      replace BKB := aB BKB hb
      replace BKE := aB BKE hb
      replace BKA := aB BKA hb
      replace HB := aH hb
      (try clear hb)
      (try clear hb2)
      (try clear hk)
      (try clear hi)
      refine hK.out _ _ ⟨(blk_cell BKE.out 0).trans rfl, (blk_cell BKE.out 1).trans rfl, (blk_cell BKD.out 0).trans rfl, (blk_cell BKD.out 1).trans rfl⟩ (fun hHeld => ?_)
      clear hK K
      refine norm_ (a' := ?_) ?_ ?_
      rotate_left
      ·show Act.put _ (some 48) _ = _
       simp only [Act.put, List.setIfInBounds_toArray, List.set_cons_zero, List.set_cons_succ, i64_w, i32_w]
       rfl
      refine pA 4 49 kr ?_
      refine done_ kr ?_
      have hnb66 := NBE_D.out
      have hnc66 := NBD_E.out
      have hnb67 := NBE_B.out
      have hnc67 := NBB_E.out
      have hnb68 := NBE_A.out
      have hnc68 := NBA_E.out
      obtain ⟨hcz69_0, hcz69_1, hfz69_0, hfz69_1⟩ := bc2 BKE.out
      go_upto_region 14 with (first | ((with_reducible refine gate_callee (f := 19) rfl ?_); refine goesL_ (some 52) rfl rfl Try.func19 kr rfl #[.agg #[.int .i64 tV, .slice Ao30 tW.length co30], .int .i64 1] rfl p5 ?_; (with_reducible refine (laws_markMatroid.calls kj11 tV (fun k_ => some k_ = (.slice Ao30 tW.length co30 : Value).ownBlock) (.slice Ao30 tW.length co30) tW 1 tBe tAm w _ ?side1 ?side2 A60.out).mono ?_); (case side1 => repeat (first | (with_reducible first | exact HB.out | apply below_alloc | apply pw_below_drewN | apply below_drew1 | refine below_set ?_ GED.out | refine below_set ?_ GEB.out | refine below_set ?_ GEE.out | refine below_set ?_ GEA.out) | exact HB.out)); (case side2 => exact Kd.R_tight rfl HO_J.out); rintro e w70 ⟨rfl, hy0, hb, hkp⟩; refine ⟨_, rfl, ?_⟩; replace HO_O := Aside0.mk (Kd.R_mono (ok' := fun k_ => some k_ ≠ (.slice Ao30 tW.length co30 : Value).ownBlock ∧ some k_ ≠ (.slice Ao37 tL.length co37 : Value).ownBlock ∧ some k_ ≠ (.slice Ao64 tAy.length co64 : Value).ownBlock) (Kd.R_keptB (HO_O.out) hkp (fun k_ hk_ hs_ => (hk_.1.1) hs_)) (fun k_ hk_ => ⟨hk_.1.1.1, hk_.1.1.2, hk_.1.2⟩)); replace HO_I := Aside0.mk (Kd.R_mono (ok' := fun k_ => some k_ ≠ (.slice Ao23 tP.length co23 : Value).ownBlock ∧ some k_ ≠ (.slice Ao30 tW.length co30 : Value).ownBlock ∧ some k_ ≠ (.slice Ao64 tAy.length co64 : Value).ownBlock) (Kd.R_keptB (HO_I.out) hkp (fun k_ hk_ hs_ => (hk_.1.2) hs_)) (fun k_ hk_ => ⟨hk_.1.1.1, hk_.1.1.2, hk_.1.2⟩)); replace BKD := Aside0.mk (blk_kept (pK BKD.out) hkp (fun hs_ => (fun e_ => (Kd.R_ne HO_J.out BKD.out (by decide)) e_) hs_)); replace BKB := Aside0.mk (blk_kept (pK BKB.out) hkp (fun hs_ => (fun e_ => (Kd.R_ne HO_J.out BKB.out (by decide)) e_) hs_)); replace BKE := Aside0.mk (blk_kept (pK BKE.out) hkp (fun hs_ => (fun e_ => (Kd.R_ne HO_J.out BKE.out (by decide)) e_) hs_)); replace BKA := Aside0.mk (blk_kept (pK BKA.out) hkp (fun hs_ => (fun e_ => (Kd.R_ne HO_J.out BKA.out (by decide)) e_) hs_)); replace HO_J := Aside0.mk (Kd.R_reok rfl hy0 (fun k_ e_ => HO_J.out.1 k_ e_)); replace HOAj := Aside0.mk (Kd.R_mono (ok' := fun k_ => some k_ ≠ (.slice Ao23 tP.length co23 : Value).ownBlock ∧ some k_ ≠ (.slice Ao30 tW.length co30 : Value).ownBlock ∧ some k_ ≠ (.slice Ao37 tL.length co37 : Value).ownBlock) (Kd.R_keptB (HOAj.out) hkp (fun k_ hk_ hs_ => (hk_.1.2) hs_)) (fun k_ hk_ => ⟨hk_.1.1.1.2, hk_.1.1.2, hk_.1.2⟩)); replace HB := Aside0.mk (hb); (try clear hb); (try clear hkp); (try clear hy0)))
      (try simp only [Act.put, List.setIfInBounds_toArray, List.set_cons_zero, List.set_cons_succ])
      go_cut [65] (fun v65 wc => ∃ (kq : Nat) (x65_60 : Bool), v65 = .bool x65_60 ∧ Aside0 (laws_FnExactFindMatrix.j1 kq a1 tAd x65_60 a0_0 l0_1 tM tX tY tP tF tQ tT tL = some r) ∧ Aside0 (kq ≤ kj11) ∧ Aside0 (Kd.R (Kd.int .i64) 3 wc w.heap.size (fun k_ => some k_ ≠ ((.slice Ao30 tW.length co30) : Value).ownBlock ∧ some k_ ≠ ((.slice Ao37 tL.length co37) : Value).ownBlock) (.slice Ao23 tP.length co23) tP) ∧ Aside0 (Kd.R (Kd.int .i64) 3 wc w.heap.size (fun k_ => some k_ ≠ ((.slice Ao23 tP.length co23) : Value).ownBlock ∧ some k_ ≠ ((.slice Ao37 tL.length co37) : Value).ownBlock) (.slice Ao30 tW.length co30) tAm) ∧ Aside0 (Kd.R (Kd.int .i64) 3 wc w.heap.size (fun k_ => some k_ ≠ ((.slice Ao23 tP.length co23) : Value).ownBlock ∧ some k_ ≠ ((.slice Ao30 tW.length co30) : Value).ownBlock) (.slice Ao37 tL.length co37) tL) ∧ Aside0 (wc.heap[gbD]? = some (.cells #[.int .i64 a0_0, (.slice A0_1 l0_1.length c0_1)] 24 (0, 0))) ∧ Aside0 (wc.heap[gbB]? = some (.cells #[.int .i64 tM, .int .i64 tX, .int .i64 tY, (.slice Ao23 tP.length co23)] 32 (0, 0))) ∧ Aside0 (wc.heap[gbE]? = some (.cells #[.int .i64 tV, (.slice Ao30 tW.length co30)] 27 (0, 0))) ∧ Aside0 (wc.heap[gbA]? = some (.cells #[.int .i64 tF, .int .i64 tQ, .int .i64 tT, (.slice Ao37 tL.length co37)] 32 (0, 0))) ∧ Aside0 (Below w.heap.size w wc))
      case first =>
       have H := HC61.out
       clear HC61
       by_cases c71 : tBe < 0
       ·rw [if_pos c71] at H
        have c71b0 : decide (tBe < 0) = true := decide_eq_true c71
        clear c71
        (first | rw [c71b0] | (simp only [i64_w, i32_w]; rw [c71b0]) | skip)
        have H' := Aside0.mk H
        clear H
        go_wp2
        go_meet
        case rel => exact ⟨_, (true), p7, H', ⟨by have := HJ11.out; first | omega | exact Nat.le_refl _⟩, ⟨by (with_reducible repeat (first | apply Kd.R_alloc | apply Kd.R_drewN | apply Kd.R_drew)); exact Kd.R_mono HO_O.out (fun _ hk => ⟨hk.1, hk.2.1⟩)⟩, ⟨by (with_reducible repeat (first | apply Kd.R_alloc | apply Kd.R_drewN | apply Kd.R_drew)); exact Kd.R_mono HO_J.out (fun _ hk => ⟨hk.1.1, hk.1.2⟩)⟩, ⟨by (with_reducible repeat (first | apply Kd.R_alloc | apply Kd.R_drewN | apply Kd.R_drew)); exact Kd.R_mono HO_I.out (fun _ hk => ⟨hk.1, hk.2.1⟩)⟩, ⟨pK BKD.out⟩, ⟨pK BKB.out⟩, ⟨pK BKE.out⟩, ⟨pK BKA.out⟩, ⟨pB⟩⟩
       ·rw [if_neg c71] at H
        have c71b0 : decide (tBe < 0) = false := decide_eq_false c71
        clear c71
        (first | rw [c71b0] | (simp only [i64_w, i32_w]; rw [c71b0]) | skip)
        replace H := bS H
        obtain ⟨tBv, A72, H⟩ := H
        by_cases c73 : tBv = true
        ·subst c73
         replace H := iP H
         have H' := Aside0.mk H
         clear H
         have hnb74 := NBA_D.out
         have hnc74 := NBD_A.out
         have hnb75 := NBA_B.out
         have hnc75 := NBB_A.out
         have hnb76 := NBA_E.out
         have hnc76 := NBE_A.out
         obtain ⟨hcz77_0, hcz77_1, hcz77_2, hcz77_3, hfz77_0, hfz77_1, hfz77_2, hfz77_3⟩ := bc4 BKA.out
         have hnb78 := NBB_D.out
         have hnc78 := NBD_B.out
         have hnb79 := NBB_E.out
         have hnc79 := NBE_B.out
         obtain ⟨hcz80_0, hcz80_1, hcz80_2, hcz80_3, hfz80_0, hfz80_1, hfz80_2, hfz80_3⟩ := bc4 BKB.out
         go_wp2_with (first | (go_at_call 18; (with_reducible refine (laws_eqMatrix.calls kj11 tF tQ tT _ _ tL tM tX tY _ _ tP true _ ?side1 ?side2 ?side3 ?side4 A72.out).mono ?_); (case side1 => repeat (first | exact (Kd.R_reads' HO_I.out).2.2 | (with_reducible refine Kd.C_alloc ?_ _) | (with_reducible refine Kd.C_drewN ?_ _) | (with_reducible refine Kd.C_drew ?_))); (case side2 => exact (Kd.R_reads' HO_I.out).2.1); (case side3 => repeat (first | exact (Kd.R_reads' HO_O.out).2.2 | (with_reducible refine Kd.C_alloc ?_ _) | (with_reducible refine Kd.C_drewN ?_ _) | (with_reducible refine Kd.C_drew ?_))); (case side4 => exact (Kd.R_reads' HO_O.out).2.1); rintro e w81 ⟨rfl, hb⟩; replace HO_O := aR HO_O hb; replace HO_J := aR HO_J hb; replace HO_I := aR HO_I hb; replace HOAj := aR HOAj hb; replace BKD := aB BKD hb; replace BKB := aB BKB hb; replace BKE := aB BKE hb; replace BKA := aB BKA hb; replace HB := aH hb; (try clear hb)))
         go_meet
         case rel => exact ⟨_, ((tAx != tAd)), p7, H', ⟨by have := HJ11.out; first | omega | exact Nat.le_refl _⟩, ⟨by (with_reducible repeat (first | apply Kd.R_alloc | apply Kd.R_drewN | apply Kd.R_drew)); exact Kd.R_mono HO_O.out (fun _ hk => ⟨hk.1, hk.2.1⟩)⟩, ⟨by (with_reducible repeat (first | apply Kd.R_alloc | apply Kd.R_drewN | apply Kd.R_drew)); exact Kd.R_mono HO_J.out (fun _ hk => ⟨hk.1.1, hk.1.2⟩)⟩, ⟨by (with_reducible repeat (first | apply Kd.R_alloc | apply Kd.R_drewN | apply Kd.R_drew)); exact Kd.R_mono HO_I.out (fun _ hk => ⟨hk.1, hk.2.1⟩)⟩, ⟨pK BKD.out⟩, ⟨pK BKB.out⟩, ⟨pK BKE.out⟩, ⟨pK BKA.out⟩, ⟨pB⟩⟩
        ·replace c73 := Bool.eq_false_iff.mpr c73
         subst c73
         replace H := iN H
         have H' := Aside0.mk H
         clear H
         have hnb82 := NBA_D.out
         have hnc82 := NBD_A.out
         have hnb83 := NBA_B.out
         have hnc83 := NBB_A.out
         have hnb84 := NBA_E.out
         have hnc84 := NBE_A.out
         obtain ⟨hcz85_0, hcz85_1, hcz85_2, hcz85_3, hfz85_0, hfz85_1, hfz85_2, hfz85_3⟩ := bc4 BKA.out
         have hnb86 := NBB_D.out
         have hnc86 := NBD_B.out
         have hnb87 := NBB_E.out
         have hnc87 := NBE_B.out
         obtain ⟨hcz88_0, hcz88_1, hcz88_2, hcz88_3, hfz88_0, hfz88_1, hfz88_2, hfz88_3⟩ := bc4 BKB.out
         go_wp2_with (first | (go_at_call 18; (with_reducible refine (laws_eqMatrix.calls kj11 tF tQ tT _ _ tL tM tX tY _ _ tP false _ ?side1 ?side2 ?side3 ?side4 A72.out).mono ?_); (case side1 => repeat (first | exact (Kd.R_reads' HO_I.out).2.2 | (with_reducible refine Kd.C_alloc ?_ _) | (with_reducible refine Kd.C_drewN ?_ _) | (with_reducible refine Kd.C_drew ?_))); (case side2 => exact (Kd.R_reads' HO_I.out).2.1); (case side3 => repeat (first | exact (Kd.R_reads' HO_O.out).2.2 | (with_reducible refine Kd.C_alloc ?_ _) | (with_reducible refine Kd.C_drewN ?_ _) | (with_reducible refine Kd.C_drew ?_))); (case side4 => exact (Kd.R_reads' HO_O.out).2.1); rintro e w89 ⟨rfl, hb⟩; replace HO_O := aR HO_O hb; replace HO_J := aR HO_J hb; replace HO_I := aR HO_I hb; replace HOAj := aR HOAj hb; replace BKD := aB BKD hb; replace BKB := aB BKB hb; replace BKE := aB BKE hb; replace BKA := aB BKA hb; replace HB := aH hb; (try clear hb)))
         go_meet
         case rel => exact ⟨_, (true), p7, H', ⟨by have := HJ11.out; first | omega | exact Nat.le_refl _⟩, ⟨by (with_reducible repeat (first | apply Kd.R_alloc | apply Kd.R_drewN | apply Kd.R_drew)); exact Kd.R_mono HO_O.out (fun _ hk => ⟨hk.1, hk.2.1⟩)⟩, ⟨by (with_reducible repeat (first | apply Kd.R_alloc | apply Kd.R_drewN | apply Kd.R_drew)); exact Kd.R_mono HO_J.out (fun _ hk => ⟨hk.1.1, hk.1.2⟩)⟩, ⟨by (with_reducible repeat (first | apply Kd.R_alloc | apply Kd.R_drewN | apply Kd.R_drew)); exact Kd.R_mono HO_I.out (fun _ hk => ⟨hk.1, hk.2.1⟩)⟩, ⟨pK BKD.out⟩, ⟨pK BKB.out⟩, ⟨pK BKE.out⟩, ⟨pK BKA.out⟩, ⟨pB⟩⟩
      case rest =>
       clear HC61
       try clear c4
       try clear c4b0
       try clear c56
       try clear c59
       try clear hcz14_0
       try clear hcz14_1
       try clear hcz16_0
       try clear hcz16_1
       try clear hcz22_0
       try clear hcz22_1
       try clear hcz22_2
       try clear hcz22_3
       try clear hcz24_0
       try clear hcz24_1
       try clear hcz29_0
       try clear hcz29_1
       try clear hcz36_0
       try clear hcz36_1
       try clear hcz36_2
       try clear hcz36_3
       try clear hcz69_0
       try clear hcz69_1
       try clear hfz14_0
       try clear hfz14_1
       try clear hfz16_0
       try clear hfz16_1
       try clear hfz22_0
       try clear hfz22_1
       try clear hfz22_2
       try clear hfz22_3
       try clear hfz24_0
       try clear hfz24_1
       try clear hfz29_0
       try clear hfz29_1
       try clear hfz36_0
       try clear hfz36_1
       try clear hfz36_2
       try clear hfz36_3
       try clear hfz69_0
       try clear hfz69_1
       obtain ⟨kq, x65_60, rfl, HA, HJ60, HO_O, HO_J, HO_I, BKD, BKB, BKE, BKA, HB⟩ := hcut
       have hlJ_60 := (Kd.R_reads' HO_J.out).1
       rw [hlJ_60] at HO_J
       (try simp only [hlJ_60])
       (try simp only [hlJ_60] at BKD)
       (try simp only [hlJ_60] at BKB)
       (try simp only [hlJ_60] at BKE)
       (try simp only [hlJ_60] at BKA)
       (try simp only [hlJ_60] at HO_O)
       (try simp only [hlJ_60] at HO_I)
       cases kq with
       | zero => exact absurd HA.out (by simp [laws_FnExactFindMatrix.j1])
       | succ kj60 =>
        have H := HA.out
        clear HA
        simp only [laws_FnExactFindMatrix.j1] at H
        by_cases c90 : x65_60 = true
        ·subst c90
         replace H := iP H
         obtain rfl := Option.some.inj H
         go_wp2
         go_ret
         exact ⟨p8, pB⟩
        ·replace c90 := Bool.eq_false_iff.mpr c90
         subst c90
         replace H := iN H
         replace H := Option.bind_eq_some_iff.mp H
         obtain ⟨⟨tAh, tAb⟩, ACf, H⟩ := H
         replace H : ((laws_heldMatrix.f kj60 tF tQ tT tAb 1).bind fun tAp => (if tAp < 0 then (some false) else (if tAp = tAh then ((laws_toMatroid.f kj60 a0_0 l0_1).bind fun btBf => ((impl_FindMatrix.f kj60 btBf.1 btBf.2 a1).bind fun btZ => ((laws_eqMatrix.f kj60 btZ.1 btZ.2.1 btZ.2.2.1 btZ.2.2.2.1 tM tX tY tP).bind fun tBg => (if tBg = true then (laws_FnExactFindMatrix.j2 kj60 tAh (btZ.2.2.2.2 != tAd) tF tQ tT tAb) else (laws_FnExactFindMatrix.j2 kj60 tAh true tF tQ tT tAb))))) else (some false)))) = some r := H
         have A91 := Aside0.mk ACf
         clear ACf
         replace H := bS H
         obtain ⟨tAp, A92, H⟩ := H
         by_cases c93 : tAp < 0
         ·rw [if_pos c93] at H
          have c93b0 : decide (tAp < 0) = true := decide_eq_true c93
          clear c93
          obtain rfl := Option.some.inj H
          have hnb94 := NBA_D.out
          have hnc94 := NBD_A.out
          have hnb95 := NBA_B.out
          have hnc95 := NBB_A.out
          have hnb96 := NBA_E.out
          have hnc96 := NBE_A.out
          obtain ⟨hcz97_0, hcz97_1, hcz97_2, hcz97_3, hfz97_0, hfz97_1, hfz97_2, hfz97_3⟩ := bc4 BKA.out
          go_wp2_with (first | ((with_reducible refine gate_callee (f := 20) rfl ?_); refine goesL_ (some 68) rfl rfl Try.func20 kr rfl #[.agg #[.int .i64 tF, .int .i64 tQ, .int .i64 tT, .slice Ao37 tL.length co37], .int .i64 1] rfl p5 ?_; (with_reducible refine (laws_markMatrix.calls kj60 tF tQ tT (fun k_ => some k_ = (.slice Ao37 tL.length co37 : Value).ownBlock) (.slice Ao37 tL.length co37) tL 1 tAh tAb w _ ?side1 ?side2 A91.out).mono ?_); (case side1 => repeat (first | (with_reducible first | exact HB.out | apply below_alloc | apply pw_below_drewN | apply below_drew1 | refine below_set ?_ GED.out | refine below_set ?_ GEB.out | refine below_set ?_ GEE.out | refine below_set ?_ GEA.out) | exact HB.out)); (case side2 => exact Kd.R_tight rfl HO_I.out); rintro e w98 ⟨rfl, hy0, hb, hkp⟩; refine ⟨_, rfl, ?_⟩; replace HO_O := Aside0.mk (Kd.R_mono (ok' := fun k_ => some k_ ≠ (.slice Ao30 tAm.length co30 : Value).ownBlock ∧ some k_ ≠ (.slice Ao37 tL.length co37 : Value).ownBlock) (Kd.R_keptB (HO_O.out) hkp (fun k_ hk_ hs_ => (hk_.2) hs_)) (fun k_ hk_ => ⟨hk_.1.1, hk_.1.2⟩)); replace HO_J := Aside0.mk (Kd.R_mono (ok' := fun k_ => some k_ ≠ (.slice Ao23 tP.length co23 : Value).ownBlock ∧ some k_ ≠ (.slice Ao37 tL.length co37 : Value).ownBlock) (Kd.R_keptB (HO_J.out) hkp (fun k_ hk_ hs_ => (hk_.2) hs_)) (fun k_ hk_ => ⟨hk_.1.1, hk_.1.2⟩)); replace BKD := Aside0.mk (blk_kept (pK BKD.out) hkp (fun hs_ => (fun e_ => (Kd.R_ne HO_I.out BKD.out (by decide)) e_) hs_)); replace BKB := Aside0.mk (blk_kept (pK BKB.out) hkp (fun hs_ => (fun e_ => (Kd.R_ne HO_I.out BKB.out (by decide)) e_) hs_)); replace BKE := Aside0.mk (blk_kept (pK BKE.out) hkp (fun hs_ => (fun e_ => (Kd.R_ne HO_I.out BKE.out (by decide)) e_) hs_)); replace BKA := Aside0.mk (blk_kept (pK BKA.out) hkp (fun hs_ => (fun e_ => (Kd.R_ne HO_I.out BKA.out (by decide)) e_) hs_)); replace HO_I := Aside0.mk (Kd.R_reok rfl hy0 (fun k_ e_ => HO_I.out.1 k_ e_)); replace HB := Aside0.mk (hb); (try clear hb); (try clear hkp); (try clear hy0); obtain ⟨hcz99_0, hcz99_1, hcz99_2, hcz99_3, hfz99_0, hfz99_1, hfz99_2, hfz99_3⟩ := bc4 BKA.out) | ((with_reducible refine gate_callee (f := 21) rfl ?_); refine goesL_ (some 71) rfl rfl Try.func21 kr rfl #[.agg #[.int .i64 tF, .int .i64 tQ, .int .i64 tT, .slice Ao37 tAb.length co37], .int .i64 1] rfl (by (try simp only [List.map_toArray, List.map_cons, List.map_nil]); first | done | (rw [show tAb.length = tL.length from (Kd.R_reads' HO_I.out).1.symm] <;> rfl) | rfl | (simp only [List.length_drop, List.length_take]; rfl)) ?_; (with_reducible refine (laws_heldMatrix.calls kj60 tF tQ tT _ _ tAb 1 tAp _ ?side1 ?side2 A92.out).mono ?_); (case side1 => repeat (first | exact (Kd.R_reads' HO_I.out).2.2 | (with_reducible refine Kd.C_alloc ?_ _) | (with_reducible refine Kd.C_drewN ?_ _) | (with_reducible refine Kd.C_drew ?_))); (case side2 => rw [show tAb.length = tL.length from (Kd.R_reads' HO_I.out).1.symm]; exact (Kd.R_reads' HO_I.out).2.1); rintro e wBy ⟨rfl, hb⟩; refine ⟨_, rfl, ?_⟩; replace HO_O := aR HO_O hb; replace HO_J := aR HO_J hb; replace HO_I := aR HO_I hb; replace BKD := aB BKD hb; replace BKB := aB BKB hb; replace BKE := aB BKE hb; replace BKA := aB BKA hb; replace HB := aH hb; (try clear hb)))
          go_ret
          exact ⟨p8, pB⟩
         ·rw [if_neg c93] at H
          have c93b0 : decide (tAp < 0) = false := decide_eq_false c93
          clear c93
          by_cases cAz : tAp = tAh
          ·rw [if_pos cAz] at H
           have c101b0 : (tAp == tAh) = true := beq_iff_eq.mpr cAz
           have c101b1 : (tAp != tAh) = false := bne_eq_false_iff_eq.mpr cAz
           clear cAz
           replace H := Option.bind_eq_some_iff.mp H
           obtain ⟨⟨tBf, tBa⟩, ACg, H⟩ := H
           replace H : ((impl_FindMatrix.f kj60 tBf tBa a1).bind fun btZ => ((laws_eqMatrix.f kj60 btZ.1 btZ.2.1 btZ.2.2.1 btZ.2.2.2.1 tM tX tY tP).bind fun tBg => (if tBg = true then (laws_FnExactFindMatrix.j2 kj60 tAh (btZ.2.2.2.2 != tAd) tF tQ tT tAb) else (laws_FnExactFindMatrix.j2 kj60 tAh true tF tQ tT tAb)))) = some r := H
           have ACk := Aside0.mk ACg
           clear ACg
           replace H := Option.bind_eq_some_iff.mp H
           obtain ⟨⟨tZ, tAc, tAe, tAa, tCa⟩, ACh, H⟩ := H
           replace H : ((laws_eqMatrix.f kj60 tZ tAc tAe tAa tM tX tY tP).bind fun tBg => (if tBg = true then (laws_FnExactFindMatrix.j2 kj60 tAh (tCa != tAd) tF tQ tT tAb) else (laws_FnExactFindMatrix.j2 kj60 tAh true tF tQ tT tAb))) = some r := H
           have AAk := Aside0.mk ACh
           clear ACh
           have HCCb := Aside0.mk H
           clear H
           have hnbCl := NBA_D.out
           have hncCl := NBD_A.out
           have hnbCm := NBA_B.out
           have hncCm := NBB_A.out
           have hnbCn := NBA_E.out
           have hncCn := NBE_A.out
           obtain ⟨hczAn_0, hczAn_1, hczAn_2, hczAn_3, hfzAn_0, hfzAn_1, hfzAn_2, hfzAn_3⟩ := bc4 BKA.out
           go_upto_region 25 with (first | ((with_reducible refine gate_callee (f := 20) rfl ?_); refine goesL_ (some 68) rfl rfl Try.func20 kr rfl #[.agg #[.int .i64 tF, .int .i64 tQ, .int .i64 tT, .slice Ao37 tL.length co37], .int .i64 1] rfl p5 ?_; (with_reducible refine (laws_markMatrix.calls kj60 tF tQ tT (fun k_ => some k_ = (.slice Ao37 tL.length co37 : Value).ownBlock) (.slice Ao37 tL.length co37) tL 1 tAh tAb w _ ?side1 ?side2 A91.out).mono ?_); (case side1 => repeat (first | (with_reducible first | exact HB.out | apply below_alloc | apply pw_below_drewN | apply below_drew1 | refine below_set ?_ GED.out | refine below_set ?_ GEB.out | refine below_set ?_ GEE.out | refine below_set ?_ GEA.out) | exact HB.out)); (case side2 => exact Kd.R_tight rfl HO_I.out); rintro e wEb ⟨rfl, hy0, hb, hkp⟩; refine ⟨_, rfl, ?_⟩; replace HO_O := Aside0.mk (Kd.R_mono (ok' := fun k_ => some k_ ≠ (.slice Ao30 tAm.length co30 : Value).ownBlock ∧ some k_ ≠ (.slice Ao37 tL.length co37 : Value).ownBlock) (Kd.R_keptB (HO_O.out) hkp (fun k_ hk_ hs_ => (hk_.2) hs_)) (fun k_ hk_ => ⟨hk_.1.1, hk_.1.2⟩)); replace HO_J := Aside0.mk (Kd.R_mono (ok' := fun k_ => some k_ ≠ (.slice Ao23 tP.length co23 : Value).ownBlock ∧ some k_ ≠ (.slice Ao37 tL.length co37 : Value).ownBlock) (Kd.R_keptB (HO_J.out) hkp (fun k_ hk_ hs_ => (hk_.2) hs_)) (fun k_ hk_ => ⟨hk_.1.1, hk_.1.2⟩)); replace BKD := Aside0.mk (blk_kept (pK BKD.out) hkp (fun hs_ => (fun e_ => (Kd.R_ne HO_I.out BKD.out (by decide)) e_) hs_)); replace BKB := Aside0.mk (blk_kept (pK BKB.out) hkp (fun hs_ => (fun e_ => (Kd.R_ne HO_I.out BKB.out (by decide)) e_) hs_)); replace BKE := Aside0.mk (blk_kept (pK BKE.out) hkp (fun hs_ => (fun e_ => (Kd.R_ne HO_I.out BKE.out (by decide)) e_) hs_)); replace BKA := Aside0.mk (blk_kept (pK BKA.out) hkp (fun hs_ => (fun e_ => (Kd.R_ne HO_I.out BKA.out (by decide)) e_) hs_)); replace HO_I := Aside0.mk (Kd.R_reok rfl hy0 (fun k_ e_ => HO_I.out.1 k_ e_)); replace HB := Aside0.mk (hb); (try clear hb); (try clear hkp); (try clear hy0); obtain ⟨hczAi_0, hczAi_1, hczAi_2, hczAi_3, hfzAi_0, hfzAi_1, hfzAi_2, hfzAi_3⟩ := bc4 BKA.out) | ((with_reducible refine gate_callee (f := 21) rfl ?_); refine goesL_ (some 71) rfl rfl Try.func21 kr rfl #[.agg #[.int .i64 tF, .int .i64 tQ, .int .i64 tT, .slice Ao37 tAb.length co37], .int .i64 1] rfl (by (try simp only [List.map_toArray, List.map_cons, List.map_nil]); first | done | (rw [show tAb.length = tL.length from (Kd.R_reads' HO_I.out).1.symm] <;> rfl) | rfl | (simp only [List.length_drop, List.length_take]; rfl)) ?_; (with_reducible refine (laws_heldMatrix.calls kj60 tF tQ tT _ _ tAb 1 tAp _ ?side1 ?side2 A92.out).mono ?_); (case side1 => repeat (first | exact (Kd.R_reads' HO_I.out).2.2 | (with_reducible refine Kd.C_alloc ?_ _) | (with_reducible refine Kd.C_drewN ?_ _) | (with_reducible refine Kd.C_drew ?_))); (case side2 => rw [show tAb.length = tL.length from (Kd.R_reads' HO_I.out).1.symm]; exact (Kd.R_reads' HO_I.out).2.1); rintro e wEc ⟨rfl, hb⟩; refine ⟨_, rfl, ?_⟩; replace HO_O := aR HO_O hb; replace HO_J := aR HO_J hb; replace HO_I := aR HO_I hb; replace BKD := aB BKD hb; replace BKB := aB BKB hb; replace BKE := aB BKE hb; replace BKA := aB BKA hb; replace HB := aH hb; (try clear hb); have hnbCo := NBD_B.out; have hncCo := NBB_D.out; have hnbCp := NBD_E.out; have hncCp := NBE_D.out; obtain ⟨hczBh_0, hczBh_1, hfzBh_0, hfzBh_1⟩ := bc2 BKD.out) | ((with_reducible refine gate_callee (f := 9) rfl ?_); refine goesL_ (some 79) rfl rfl Try.func9 kr rfl #[.agg #[.int .i64 a0_0, .slice A0_1 l0_1.length c0_1]] rfl p5 ?_; (with_reducible refine (laws_toMatroid.calls kj60 a0_0 _ _ l0_1 tBf tBa _ ?side1 ?side2 ACk.out).mono ?_); (case side1 => exact pC (Kd.C_below HR0_1.out HB.out)); (case side2 => exact HC0_1.out); rintro e wEd ⟨vEe, rfl, ho0, hb⟩; refine ⟨_, rfl, ?_⟩; have HOAt := Aside0.mk (Kd.R_lower (Kd.R_new' (Kd.R_new' (Kd.R_new' ho0 (Kd.R_lt (pR HO_O.out))) (Kd.R_lt (pR HO_J.out))) (Kd.R_lt (pR HO_I.out))) (below_size pB)); replace HO_O := Aside0.mk (Kd.R_elder' (pR HO_O.out) (Kd.R_base ho0) hb); replace HO_J := Aside0.mk (Kd.R_elder' (pR HO_J.out) (Kd.R_base ho0) hb); replace HO_I := Aside0.mk (Kd.R_elder' (pR HO_I.out) (Kd.R_base ho0) hb); replace BKD := aB BKD hb; replace BKB := aB BKB hb; replace BKE := aB BKE hb; replace BKA := aB BKA hb; replace HB := aH hb; (try clear hb); (try clear ho0); obtain ⟨AoAr, coAr, eoAr⟩ := Kd.R_slice HOAt.out; subst eoAr) | ((with_reducible refine gate_callee (f := 17) rfl ?_); refine goesL_ (some 81) rfl rfl Try.func17 kr rfl #[.agg #[.int .i64 tBf, .slice AoAr tBa.length coAr], .int .i64 a1] rfl p5 ?_; (with_reducible refine (impl_FindMatrix.calls kj60 tBf _ _ tBa a1 tZ tAc tAe tAa tCa _ ?side1 ?side2 AAk.out).mono ?_); (case side1 => repeat (first | exact (Kd.R_reads' HOAt.out).2.2 | (with_reducible refine Kd.C_alloc ?_ _) | (with_reducible refine Kd.C_drewN ?_ _) | (with_reducible refine Kd.C_drew ?_))); (case side2 => exact (Kd.R_reads' HOAt.out).2.1); rintro e wEf ⟨vEg, rfl, ho0, hb⟩; refine ⟨_, rfl, ?_⟩; have HOAs := Aside0.mk (Kd.R_lower (Kd.R_new' (Kd.R_new' (Kd.R_new' (Kd.R_new' ho0 (Kd.R_lt (pR HO_O.out))) (Kd.R_lt (pR HO_J.out))) (Kd.R_lt (pR HO_I.out))) (Kd.R_lt (pR HOAt.out))) (below_size pB)); replace HO_O := Aside0.mk (Kd.R_elder' (pR HO_O.out) (Kd.R_base ho0) hb); replace HO_J := Aside0.mk (Kd.R_elder' (pR HO_J.out) (Kd.R_base ho0) hb); replace HO_I := Aside0.mk (Kd.R_elder' (pR HO_I.out) (Kd.R_base ho0) hb); replace HOAt := Aside0.mk (Kd.R_elder' (pR HOAt.out) (Kd.R_base ho0) hb); replace BKD := aB BKD hb; replace BKB := aB BKB hb; replace BKE := aB BKE hb; replace BKA := aB BKA hb; replace HB := aH hb; (try clear hb); (try clear ho0)) | (refine bE 14 #[.int .i64 0, .int .i64 0, .int .i64 0, .slice none 0 0] 32 ?_; intro gbG hg wEh hbox hb; replace HO_O := aR HO_O hb; replace HO_J := aR HO_J hb; replace HO_I := aR HO_I hb; replace HOAt := aR HOAt hb; replace HOAs := aR HOAs hb; have BKG := Aside0.mk hbox; have GWG := aZ w hg; have GEG := aZ w hg; replace HB := aH hb; have NBD_G := aL BKD hg; have NBG_D := aG BKD hg; replace BKD := aB BKD hb; have NBB_G := aL BKB hg; have NBG_B := aG BKB hg; replace BKB := aB BKB hb; have NBE_G := aL BKE hg; have NBG_E := aG BKE hg; replace BKE := aB BKE hb; have NBA_G := aL BKA hg; have NBG_A := aG BKA hg; replace BKA := aB BKA hb; clear hb hbox hg; have hnbCq := NBG_D.out; have hncCq := NBD_G.out; have hnbCr := NBG_B.out; have hncCr := NBB_G.out; have hnbCs := NBG_E.out; have hncCs := NBE_G.out; have hnbCt := NBG_A.out; have hncCt := NBA_G.out; obtain ⟨hczAo_0, hczAo_1, hczAo_2, hczAo_3, hfzAo_0, hfzAo_1, hfzAo_2, hfzAo_3⟩ := bc4 BKG.out; obtain ⟨AoU, coU, eoU⟩ := Kd.R_slice HOAs.out; subst eoU))
           (try simp only [Act.put, List.setIfInBounds_toArray, List.set_cons_zero, List.set_cons_succ])
           go_cut [92] (fun v92 wc => ∃ (kq : Nat) (x92_103 : Bool), v92 = .bool x92_103 ∧ Aside0 (laws_FnExactFindMatrix.j2 kq tAh x92_103 tF tQ tT tAb = some r) ∧ Aside0 (kq ≤ kj60) ∧ Aside0 (Kd.R (Kd.int .i64) 3 wc w.heap.size (fun k_ => some k_ ≠ ((.slice Ao30 tAm.length co30) : Value).ownBlock ∧ some k_ ≠ ((.slice Ao37 tL.length co37) : Value).ownBlock ∧ some k_ ≠ ((.slice AoU tAa.length coU) : Value).ownBlock) (.slice Ao23 tP.length co23) tP) ∧ Aside0 (Kd.R (Kd.int .i64) 3 wc w.heap.size (fun k_ => some k_ ≠ ((.slice Ao23 tP.length co23) : Value).ownBlock ∧ some k_ ≠ ((.slice Ao37 tL.length co37) : Value).ownBlock ∧ some k_ ≠ ((.slice AoU tAa.length coU) : Value).ownBlock) (.slice Ao30 tAm.length co30) tAm) ∧ Aside0 (Kd.R (Kd.int .i64) 3 wc w.heap.size (fun k_ => some k_ ≠ ((.slice Ao23 tP.length co23) : Value).ownBlock ∧ some k_ ≠ ((.slice Ao30 tAm.length co30) : Value).ownBlock ∧ some k_ ≠ ((.slice AoU tAa.length coU) : Value).ownBlock) (.slice Ao37 tL.length co37) tAb) ∧ Aside0 (Kd.R (Kd.int .i64) 3 wc w.heap.size (fun k_ => some k_ ≠ ((.slice Ao23 tP.length co23) : Value).ownBlock ∧ some k_ ≠ ((.slice Ao30 tAm.length co30) : Value).ownBlock ∧ some k_ ≠ ((.slice Ao37 tL.length co37) : Value).ownBlock) (.slice AoU tAa.length coU) tAa) ∧ Aside0 (wc.heap[gbD]? = some (.cells #[.int .i64 a0_0, (.slice A0_1 l0_1.length c0_1)] 24 (0, 0))) ∧ Aside0 (wc.heap[gbB]? = some (.cells #[.int .i64 tM, .int .i64 tX, .int .i64 tY, (.slice Ao23 tP.length co23)] 32 (0, 0))) ∧ Aside0 (wc.heap[gbE]? = some (.cells #[.int .i64 tV, (.slice Ao30 tAm.length co30)] 27 (0, 0))) ∧ Aside0 (wc.heap[gbA]? = some (.cells #[.int .i64 tF, .int .i64 tQ, .int .i64 tT, (.slice Ao37 tL.length co37)] 32 (0, 0))) ∧ Aside0 (wc.heap[gbG]? = some (.cells #[.int .i64 tZ, .int .i64 tAc, .int .i64 tAe, (.slice AoU tAa.length coU)] 32 (0, 0))) ∧ Aside0 (Below w.heap.size w wc))
           case first =>
            have H := HCCb.out
            clear HCCb
            replace H := bS H
            obtain ⟨tBg, ACi, H⟩ := H
            by_cases cBw : tBg = true
            ·subst cBw
             replace H := iP H
             have H' := Aside0.mk H
             clear H
             have hnbCu := NBG_D.out
             have hncCu := NBD_G.out
             have hnbCv := NBG_B.out
             have hncCv := NBB_G.out
             have hnbCw := NBG_E.out
             have hncCw := NBE_G.out
             have hnbCx := NBG_A.out
             have hncCx := NBA_G.out
             obtain ⟨hczBi_0, hczBi_1, hczBi_2, hczBi_3, hfzBi_0, hfzBi_1, hfzBi_2, hfzBi_3⟩ := bc4 BKG.out
             have hnbCy := NBB_D.out
             have hncCy := NBD_B.out
             have hnbCz := NBB_E.out
             have hncCz := NBE_B.out
             have hnbDa := NBB_A.out
             have hncDa := NBA_B.out
             obtain ⟨hczBj_0, hczBj_1, hczBj_2, hczBj_3, hfzBj_0, hfzBj_1, hfzBj_2, hfzBj_3⟩ := bc4 BKB.out
             go_wp2_with (first | ((with_reducible refine gate_callee (f := 18) rfl ?_); refine goesL_ (some 86) rfl rfl Try.func18 kr rfl #[.agg #[.int .i64 tZ, .int .i64 tAc, .int .i64 tAe, .slice AoU tAa.length coU], .agg #[.int .i64 tM, .int .i64 tX, .int .i64 tY, .slice Ao23 tP.length co23]] rfl p5 ?_; (with_reducible refine (laws_eqMatrix.calls kj60 tZ tAc tAe _ _ tAa tM tX tY _ _ tP true _ ?side1 ?side2 ?side3 ?side4 ACi.out).mono ?_); (case side1 => refine (Kd.R_reads' (e := 3) (base := w.heap.size) (ok := fun k_ => ((((True ∧ some k_ ≠ (.slice Ao23 tP.length co23 : Value).ownBlock) ∧ some k_ ≠ (.slice Ao30 tAm.length co30 : Value).ownBlock) ∧ some k_ ≠ (.slice Ao37 tL.length co37 : Value).ownBlock) ∧ some k_ ≠ (.slice AoAr tBa.length coAr : Value).ownBlock)) (n := tAa.length) (c := coU) ?_).2.2; exact (by (with_reducible repeat (first | apply Kd.R_alloc | apply Kd.R_drewN | apply Kd.R_drew)); exact (Kd.R_mono (Kd.R_far (p := ⟨gbG, 3, none⟩) (Kd.R_far (p := ⟨gbG, 2, none⟩) (Kd.R_far (p := ⟨gbG, 1, none⟩) (Kd.R_far (p := ⟨gbG, 0, none⟩) (Kd.R_types HOAs.out BKG.out (by decide)) (fun _ hk => hk.2) (.int .i64 tZ)) (fun _ hk => hk.2) (.int .i64 tAc)) (fun _ hk => hk.2) (.int .i64 tAe)) (fun _ hk => hk.2) (.slice AoU tAa.length coU)) (fun _ h_ => h_.1)))); (case side2 => exact (Kd.R_reads' HOAs.out).2.1); (case side3 => refine (Kd.R_reads' (e := 3) (base := w.heap.size) (ok := fun k_ => (((some k_ ≠ (.slice Ao30 tAm.length co30 : Value).ownBlock ∧ some k_ ≠ (.slice Ao37 tL.length co37 : Value).ownBlock) ∧ some k_ ≠ (.slice AoAr tBa.length coAr : Value).ownBlock) ∧ some k_ ≠ (.slice AoU tAa.length coU : Value).ownBlock)) (n := tP.length) (c := co23) ?_).2.2; exact (by (with_reducible repeat (first | apply Kd.R_alloc | apply Kd.R_drewN | apply Kd.R_drew)); exact (Kd.R_mono (Kd.R_far (p := ⟨gbG, 3, none⟩) (Kd.R_far (p := ⟨gbG, 2, none⟩) (Kd.R_far (p := ⟨gbG, 1, none⟩) (Kd.R_far (p := ⟨gbG, 0, none⟩) (Kd.R_types HO_O.out BKG.out (by decide)) (fun _ hk => hk.2) (.int .i64 tZ)) (fun _ hk => hk.2) (.int .i64 tAc)) (fun _ hk => hk.2) (.int .i64 tAe)) (fun _ hk => hk.2) (.slice AoU tAa.length coU)) (fun _ h_ => h_.1)))); (case side4 => exact (Kd.R_reads' HO_O.out).2.1); rintro e wEi ⟨rfl, hb⟩; refine ⟨_, rfl, ?_⟩; replace HO_O := Aside0.mk (Kd.R_below (by (with_reducible repeat (first | apply Kd.R_alloc | apply Kd.R_drewN | apply Kd.R_drew)); exact (Kd.R_mono (Kd.R_far (p := ⟨gbG, 3, none⟩) (Kd.R_far (p := ⟨gbG, 2, none⟩) (Kd.R_far (p := ⟨gbG, 1, none⟩) (Kd.R_far (p := ⟨gbG, 0, none⟩) (Kd.R_types HO_O.out BKG.out (by decide)) (fun _ hk => hk.2) (.int .i64 tZ)) (fun _ hk => hk.2) (.int .i64 tAc)) (fun _ hk => hk.2) (.int .i64 tAe)) (fun _ hk => hk.2) (.slice AoU tAa.length coU)) (fun _ h_ => h_.1))) hb); replace HO_J := Aside0.mk (Kd.R_below (by (with_reducible repeat (first | apply Kd.R_alloc | apply Kd.R_drewN | apply Kd.R_drew)); exact (Kd.R_mono (Kd.R_far (p := ⟨gbG, 3, none⟩) (Kd.R_far (p := ⟨gbG, 2, none⟩) (Kd.R_far (p := ⟨gbG, 1, none⟩) (Kd.R_far (p := ⟨gbG, 0, none⟩) (Kd.R_types HO_J.out BKG.out (by decide)) (fun _ hk => hk.2) (.int .i64 tZ)) (fun _ hk => hk.2) (.int .i64 tAc)) (fun _ hk => hk.2) (.int .i64 tAe)) (fun _ hk => hk.2) (.slice AoU tAa.length coU)) (fun _ h_ => h_.1))) hb); replace HO_I := Aside0.mk (Kd.R_below (by (with_reducible repeat (first | apply Kd.R_alloc | apply Kd.R_drewN | apply Kd.R_drew)); exact (Kd.R_mono (Kd.R_far (p := ⟨gbG, 3, none⟩) (Kd.R_far (p := ⟨gbG, 2, none⟩) (Kd.R_far (p := ⟨gbG, 1, none⟩) (Kd.R_far (p := ⟨gbG, 0, none⟩) (Kd.R_types HO_I.out BKG.out (by decide)) (fun _ hk => hk.2) (.int .i64 tZ)) (fun _ hk => hk.2) (.int .i64 tAc)) (fun _ hk => hk.2) (.int .i64 tAe)) (fun _ hk => hk.2) (.slice AoU tAa.length coU)) (fun _ h_ => h_.1))) hb); replace HOAt := Aside0.mk (Kd.R_below (by (with_reducible repeat (first | apply Kd.R_alloc | apply Kd.R_drewN | apply Kd.R_drew)); exact (Kd.R_mono (Kd.R_far (p := ⟨gbG, 3, none⟩) (Kd.R_far (p := ⟨gbG, 2, none⟩) (Kd.R_far (p := ⟨gbG, 1, none⟩) (Kd.R_far (p := ⟨gbG, 0, none⟩) (Kd.R_types HOAt.out BKG.out (by decide)) (fun _ hk => hk.2) (.int .i64 tZ)) (fun _ hk => hk.2) (.int .i64 tAc)) (fun _ hk => hk.2) (.int .i64 tAe)) (fun _ hk => hk.2) (.slice AoU tAa.length coU)) (fun _ h_ => h_.1))) hb); replace HOAs := Aside0.mk (Kd.R_below (by (with_reducible repeat (first | apply Kd.R_alloc | apply Kd.R_drewN | apply Kd.R_drew)); exact (Kd.R_mono (Kd.R_far (p := ⟨gbG, 3, none⟩) (Kd.R_far (p := ⟨gbG, 2, none⟩) (Kd.R_far (p := ⟨gbG, 1, none⟩) (Kd.R_far (p := ⟨gbG, 0, none⟩) (Kd.R_types HOAs.out BKG.out (by decide)) (fun _ hk => hk.2) (.int .i64 tZ)) (fun _ hk => hk.2) (.int .i64 tAc)) (fun _ hk => hk.2) (.int .i64 tAe)) (fun _ hk => hk.2) (.slice AoU tAa.length coU)) (fun _ h_ => h_.1))) hb); replace BKD := bF BKD.out hb; replace BKB := bF BKB.out hb; replace BKE := bF BKE.out hb; replace BKA := bF BKA.out hb; replace BKG := Aside0.mk (blk_below (g := gbG) (o := .cells #[.int .i64 tZ, .int .i64 tAc, .int .i64 tAe, .slice AoU tAa.length coU] 32 (0, 0)) (by (with_reducible repeat (first | refine blk_drewN ?_ _ | refine blk_drew ?_ | refine blk_alloc ?_ _)); refine blk_put (cs := #[.int .i64 tZ, .int .i64 tAc, .int .i64 tAe, .slice none 0 0]) ?_ 3 _ rfl; (with_reducible repeat (first | refine blk_drewN ?_ _ | refine blk_drew ?_ | refine blk_alloc ?_ _)); refine blk_put (cs := #[.int .i64 tZ, .int .i64 tAc, .int .i64 0, .slice none 0 0]) ?_ 2 _ rfl; (with_reducible repeat (first | refine blk_drewN ?_ _ | refine blk_drew ?_ | refine blk_alloc ?_ _)); refine blk_put (cs := #[.int .i64 tZ, .int .i64 0, .int .i64 0, .slice none 0 0]) ?_ 1 _ rfl; (with_reducible repeat (first | refine blk_drewN ?_ _ | refine blk_drew ?_ | refine blk_alloc ?_ _)); refine blk_put (cs := #[.int .i64 0, .int .i64 0, .int .i64 0, .slice none 0 0]) ?_ 0 _ rfl; exact pK BKG.out) hb); replace HB := aH hb; (try clear hb); (try clear hk)))
             go_meet
             case rel => exact ⟨_, ((tCa != tAd)), p7, H', ⟨by have := HJ11.out; have := HJ60.out; first | omega | exact Nat.le_refl _⟩, ⟨by (try simp only [hlJ_60]); (with_reducible repeat (first | apply Kd.R_alloc | apply Kd.R_drewN | apply Kd.R_drew)); exact Kd.R_mono HO_O.out (fun _ hk => ⟨hk.1.1.1, ⟨hk.1.1.2, hk.2⟩⟩)⟩, ⟨by (try simp only [hlJ_60]); (with_reducible repeat (first | apply Kd.R_alloc | apply Kd.R_drewN | apply Kd.R_drew)); exact Kd.R_mono HO_J.out (fun _ hk => ⟨hk.1.1.1, ⟨hk.1.1.2, hk.2⟩⟩)⟩, ⟨by (try simp only [hlJ_60]); (with_reducible repeat (first | apply Kd.R_alloc | apply Kd.R_drewN | apply Kd.R_drew)); exact Kd.R_mono HO_I.out (fun _ hk => ⟨hk.1.1.1, ⟨hk.1.1.2, hk.2⟩⟩)⟩, ⟨by (try simp only [hlJ_60]); (with_reducible repeat (first | apply Kd.R_alloc | apply Kd.R_drewN | apply Kd.R_drew)); exact Kd.R_mono HOAs.out (fun _ hk => ⟨hk.1.1.1.2, ⟨hk.1.1.2, hk.1.2⟩⟩)⟩, ⟨by (try simp only [hlJ_60]); (with_reducible repeat (first | refine blk_drewN ?_ _ | refine blk_drew ?_ | refine blk_alloc ?_ _)); exact BKD.out⟩, ⟨by (try simp only [hlJ_60]); (with_reducible repeat (first | refine blk_drewN ?_ _ | refine blk_drew ?_ | refine blk_alloc ?_ _)); exact BKB.out⟩, ⟨by (try simp only [hlJ_60]); (with_reducible repeat (first | refine blk_drewN ?_ _ | refine blk_drew ?_ | refine blk_alloc ?_ _)); exact BKE.out⟩, ⟨by (try simp only [hlJ_60]); (with_reducible repeat (first | refine blk_drewN ?_ _ | refine blk_drew ?_ | refine blk_alloc ?_ _)); exact BKA.out⟩, ⟨by (try simp only [hlJ_60]); (with_reducible repeat (first | refine blk_drewN ?_ _ | refine blk_drew ?_ | refine blk_alloc ?_ _)); exact BKG.out⟩, ⟨pB⟩⟩
            ·replace cBw := Bool.eq_false_iff.mpr cBw
             subst cBw
             replace H := iN H
             have H' := Aside0.mk H
             clear H
             have hnbDb := NBG_D.out
             have hncDb := NBD_G.out
             have hnbDc := NBG_B.out
             have hncDc := NBB_G.out
             have hnbDd := NBG_E.out
             have hncDd := NBE_G.out
             have hnbDe := NBG_A.out
             have hncDe := NBA_G.out
             obtain ⟨hczBk_0, hczBk_1, hczBk_2, hczBk_3, hfzBk_0, hfzBk_1, hfzBk_2, hfzBk_3⟩ := bc4 BKG.out
             have hnbDf := NBB_D.out
             have hncDf := NBD_B.out
             have hnbDg := NBB_E.out
             have hncDg := NBE_B.out
             have hnbDh := NBB_A.out
             have hncDh := NBA_B.out
             obtain ⟨hczBl_0, hczBl_1, hczBl_2, hczBl_3, hfzBl_0, hfzBl_1, hfzBl_2, hfzBl_3⟩ := bc4 BKB.out
             go_wp2_with (first | ((with_reducible refine gate_callee (f := 18) rfl ?_); refine goesL_ (some 86) rfl rfl Try.func18 kr rfl #[.agg #[.int .i64 tZ, .int .i64 tAc, .int .i64 tAe, .slice AoU tAa.length coU], .agg #[.int .i64 tM, .int .i64 tX, .int .i64 tY, .slice Ao23 tP.length co23]] rfl p5 ?_; (with_reducible refine (laws_eqMatrix.calls kj60 tZ tAc tAe _ _ tAa tM tX tY _ _ tP false _ ?side1 ?side2 ?side3 ?side4 ACi.out).mono ?_); (case side1 => refine (Kd.R_reads' (e := 3) (base := w.heap.size) (ok := fun k_ => ((((True ∧ some k_ ≠ (.slice Ao23 tP.length co23 : Value).ownBlock) ∧ some k_ ≠ (.slice Ao30 tAm.length co30 : Value).ownBlock) ∧ some k_ ≠ (.slice Ao37 tL.length co37 : Value).ownBlock) ∧ some k_ ≠ (.slice AoAr tBa.length coAr : Value).ownBlock)) (n := tAa.length) (c := coU) ?_).2.2; exact (by (with_reducible repeat (first | apply Kd.R_alloc | apply Kd.R_drewN | apply Kd.R_drew)); exact (Kd.R_mono (Kd.R_far (p := ⟨gbG, 3, none⟩) (Kd.R_far (p := ⟨gbG, 2, none⟩) (Kd.R_far (p := ⟨gbG, 1, none⟩) (Kd.R_far (p := ⟨gbG, 0, none⟩) (Kd.R_types HOAs.out BKG.out (by decide)) (fun _ hk => hk.2) (.int .i64 tZ)) (fun _ hk => hk.2) (.int .i64 tAc)) (fun _ hk => hk.2) (.int .i64 tAe)) (fun _ hk => hk.2) (.slice AoU tAa.length coU)) (fun _ h_ => h_.1)))); (case side2 => exact (Kd.R_reads' HOAs.out).2.1); (case side3 => refine (Kd.R_reads' (e := 3) (base := w.heap.size) (ok := fun k_ => (((some k_ ≠ (.slice Ao30 tAm.length co30 : Value).ownBlock ∧ some k_ ≠ (.slice Ao37 tL.length co37 : Value).ownBlock) ∧ some k_ ≠ (.slice AoAr tBa.length coAr : Value).ownBlock) ∧ some k_ ≠ (.slice AoU tAa.length coU : Value).ownBlock)) (n := tP.length) (c := co23) ?_).2.2; exact (by (with_reducible repeat (first | apply Kd.R_alloc | apply Kd.R_drewN | apply Kd.R_drew)); exact (Kd.R_mono (Kd.R_far (p := ⟨gbG, 3, none⟩) (Kd.R_far (p := ⟨gbG, 2, none⟩) (Kd.R_far (p := ⟨gbG, 1, none⟩) (Kd.R_far (p := ⟨gbG, 0, none⟩) (Kd.R_types HO_O.out BKG.out (by decide)) (fun _ hk => hk.2) (.int .i64 tZ)) (fun _ hk => hk.2) (.int .i64 tAc)) (fun _ hk => hk.2) (.int .i64 tAe)) (fun _ hk => hk.2) (.slice AoU tAa.length coU)) (fun _ h_ => h_.1)))); (case side4 => exact (Kd.R_reads' HO_O.out).2.1); rintro e wEj ⟨rfl, hb⟩; refine ⟨_, rfl, ?_⟩; replace HO_O := Aside0.mk (Kd.R_below (by (with_reducible repeat (first | apply Kd.R_alloc | apply Kd.R_drewN | apply Kd.R_drew)); exact (Kd.R_mono (Kd.R_far (p := ⟨gbG, 3, none⟩) (Kd.R_far (p := ⟨gbG, 2, none⟩) (Kd.R_far (p := ⟨gbG, 1, none⟩) (Kd.R_far (p := ⟨gbG, 0, none⟩) (Kd.R_types HO_O.out BKG.out (by decide)) (fun _ hk => hk.2) (.int .i64 tZ)) (fun _ hk => hk.2) (.int .i64 tAc)) (fun _ hk => hk.2) (.int .i64 tAe)) (fun _ hk => hk.2) (.slice AoU tAa.length coU)) (fun _ h_ => h_.1))) hb); replace HO_J := Aside0.mk (Kd.R_below (by (with_reducible repeat (first | apply Kd.R_alloc | apply Kd.R_drewN | apply Kd.R_drew)); exact (Kd.R_mono (Kd.R_far (p := ⟨gbG, 3, none⟩) (Kd.R_far (p := ⟨gbG, 2, none⟩) (Kd.R_far (p := ⟨gbG, 1, none⟩) (Kd.R_far (p := ⟨gbG, 0, none⟩) (Kd.R_types HO_J.out BKG.out (by decide)) (fun _ hk => hk.2) (.int .i64 tZ)) (fun _ hk => hk.2) (.int .i64 tAc)) (fun _ hk => hk.2) (.int .i64 tAe)) (fun _ hk => hk.2) (.slice AoU tAa.length coU)) (fun _ h_ => h_.1))) hb); replace HO_I := Aside0.mk (Kd.R_below (by (with_reducible repeat (first | apply Kd.R_alloc | apply Kd.R_drewN | apply Kd.R_drew)); exact (Kd.R_mono (Kd.R_far (p := ⟨gbG, 3, none⟩) (Kd.R_far (p := ⟨gbG, 2, none⟩) (Kd.R_far (p := ⟨gbG, 1, none⟩) (Kd.R_far (p := ⟨gbG, 0, none⟩) (Kd.R_types HO_I.out BKG.out (by decide)) (fun _ hk => hk.2) (.int .i64 tZ)) (fun _ hk => hk.2) (.int .i64 tAc)) (fun _ hk => hk.2) (.int .i64 tAe)) (fun _ hk => hk.2) (.slice AoU tAa.length coU)) (fun _ h_ => h_.1))) hb); replace HOAt := Aside0.mk (Kd.R_below (by (with_reducible repeat (first | apply Kd.R_alloc | apply Kd.R_drewN | apply Kd.R_drew)); exact (Kd.R_mono (Kd.R_far (p := ⟨gbG, 3, none⟩) (Kd.R_far (p := ⟨gbG, 2, none⟩) (Kd.R_far (p := ⟨gbG, 1, none⟩) (Kd.R_far (p := ⟨gbG, 0, none⟩) (Kd.R_types HOAt.out BKG.out (by decide)) (fun _ hk => hk.2) (.int .i64 tZ)) (fun _ hk => hk.2) (.int .i64 tAc)) (fun _ hk => hk.2) (.int .i64 tAe)) (fun _ hk => hk.2) (.slice AoU tAa.length coU)) (fun _ h_ => h_.1))) hb); replace HOAs := Aside0.mk (Kd.R_below (by (with_reducible repeat (first | apply Kd.R_alloc | apply Kd.R_drewN | apply Kd.R_drew)); exact (Kd.R_mono (Kd.R_far (p := ⟨gbG, 3, none⟩) (Kd.R_far (p := ⟨gbG, 2, none⟩) (Kd.R_far (p := ⟨gbG, 1, none⟩) (Kd.R_far (p := ⟨gbG, 0, none⟩) (Kd.R_types HOAs.out BKG.out (by decide)) (fun _ hk => hk.2) (.int .i64 tZ)) (fun _ hk => hk.2) (.int .i64 tAc)) (fun _ hk => hk.2) (.int .i64 tAe)) (fun _ hk => hk.2) (.slice AoU tAa.length coU)) (fun _ h_ => h_.1))) hb); replace BKD := bF BKD.out hb; replace BKB := bF BKB.out hb; replace BKE := bF BKE.out hb; replace BKA := bF BKA.out hb; replace BKG := Aside0.mk (blk_below (g := gbG) (o := .cells #[.int .i64 tZ, .int .i64 tAc, .int .i64 tAe, .slice AoU tAa.length coU] 32 (0, 0)) (by (with_reducible repeat (first | refine blk_drewN ?_ _ | refine blk_drew ?_ | refine blk_alloc ?_ _)); refine blk_put (cs := #[.int .i64 tZ, .int .i64 tAc, .int .i64 tAe, .slice none 0 0]) ?_ 3 _ rfl; (with_reducible repeat (first | refine blk_drewN ?_ _ | refine blk_drew ?_ | refine blk_alloc ?_ _)); refine blk_put (cs := #[.int .i64 tZ, .int .i64 tAc, .int .i64 0, .slice none 0 0]) ?_ 2 _ rfl; (with_reducible repeat (first | refine blk_drewN ?_ _ | refine blk_drew ?_ | refine blk_alloc ?_ _)); refine blk_put (cs := #[.int .i64 tZ, .int .i64 0, .int .i64 0, .slice none 0 0]) ?_ 1 _ rfl; (with_reducible repeat (first | refine blk_drewN ?_ _ | refine blk_drew ?_ | refine blk_alloc ?_ _)); refine blk_put (cs := #[.int .i64 0, .int .i64 0, .int .i64 0, .slice none 0 0]) ?_ 0 _ rfl; exact pK BKG.out) hb); replace HB := aH hb; (try clear hb); (try clear hk)))
             go_meet
             case rel => exact ⟨_, (true), p7, H', ⟨by have := HJ11.out; have := HJ60.out; first | omega | exact Nat.le_refl _⟩, ⟨by (try simp only [hlJ_60]); (with_reducible repeat (first | apply Kd.R_alloc | apply Kd.R_drewN | apply Kd.R_drew)); exact Kd.R_mono HO_O.out (fun _ hk => ⟨hk.1.1.1, ⟨hk.1.1.2, hk.2⟩⟩)⟩, ⟨by (try simp only [hlJ_60]); (with_reducible repeat (first | apply Kd.R_alloc | apply Kd.R_drewN | apply Kd.R_drew)); exact Kd.R_mono HO_J.out (fun _ hk => ⟨hk.1.1.1, ⟨hk.1.1.2, hk.2⟩⟩)⟩, ⟨by (try simp only [hlJ_60]); (with_reducible repeat (first | apply Kd.R_alloc | apply Kd.R_drewN | apply Kd.R_drew)); exact Kd.R_mono HO_I.out (fun _ hk => ⟨hk.1.1.1, ⟨hk.1.1.2, hk.2⟩⟩)⟩, ⟨by (try simp only [hlJ_60]); (with_reducible repeat (first | apply Kd.R_alloc | apply Kd.R_drewN | apply Kd.R_drew)); exact Kd.R_mono HOAs.out (fun _ hk => ⟨hk.1.1.1.2, ⟨hk.1.1.2, hk.1.2⟩⟩)⟩, ⟨by (try simp only [hlJ_60]); (with_reducible repeat (first | refine blk_drewN ?_ _ | refine blk_drew ?_ | refine blk_alloc ?_ _)); exact BKD.out⟩, ⟨by (try simp only [hlJ_60]); (with_reducible repeat (first | refine blk_drewN ?_ _ | refine blk_drew ?_ | refine blk_alloc ?_ _)); exact BKB.out⟩, ⟨by (try simp only [hlJ_60]); (with_reducible repeat (first | refine blk_drewN ?_ _ | refine blk_drew ?_ | refine blk_alloc ?_ _)); exact BKE.out⟩, ⟨by (try simp only [hlJ_60]); (with_reducible repeat (first | refine blk_drewN ?_ _ | refine blk_drew ?_ | refine blk_alloc ?_ _)); exact BKA.out⟩, ⟨by (try simp only [hlJ_60]); (with_reducible repeat (first | refine blk_drewN ?_ _ | refine blk_drew ?_ | refine blk_alloc ?_ _)); exact BKG.out⟩, ⟨pB⟩⟩
           case rest =>
            clear HCCb
            try clear c4
            try clear c4b0
            try clear c56
            try clear c59
            try clear c90
            try clear c93
            try clear c93b0
            try clear cAz
            try clear c101b0
            try clear c101b1
            try clear hczAn_0
            try clear hczAn_1
            try clear hczAn_2
            try clear hczAn_3
            try clear hczAi_0
            try clear hczAi_1
            try clear hczAi_2
            try clear hczAi_3
            try clear hczBh_0
            try clear hczBh_1
            try clear hczAo_0
            try clear hczAo_1
            try clear hczAo_2
            try clear hczAo_3
            try clear hcz14_0
            try clear hcz14_1
            try clear hcz16_0
            try clear hcz16_1
            try clear hcz22_0
            try clear hcz22_1
            try clear hcz22_2
            try clear hcz22_3
            try clear hcz24_0
            try clear hcz24_1
            try clear hcz29_0
            try clear hcz29_1
            try clear hcz36_0
            try clear hcz36_1
            try clear hcz36_2
            try clear hcz36_3
            try clear hcz69_0
            try clear hcz69_1
            try clear hfzAn_0
            try clear hfzAn_1
            try clear hfzAn_2
            try clear hfzAn_3
            try clear hfzAi_0
            try clear hfzAi_1
            try clear hfzAi_2
            try clear hfzAi_3
            try clear hfzBh_0
            try clear hfzBh_1
            try clear hfzAo_0
            try clear hfzAo_1
            try clear hfzAo_2
            try clear hfzAo_3
            try clear hfz14_0
            try clear hfz14_1
            try clear hfz16_0
            try clear hfz16_1
            try clear hfz22_0
            try clear hfz22_1
            try clear hfz22_2
            try clear hfz22_3
            try clear hfz24_0
            try clear hfz24_1
            try clear hfz29_0
            try clear hfz29_1
            try clear hfz36_0
            try clear hfz36_1
            try clear hfz36_2
            try clear hfz36_3
            try clear hfz69_0
            try clear hfz69_1
            obtain ⟨kq, x92_103, rfl, HA, HJAk, HO_O, HO_J, HO_I, HO_Bm, BKD, BKB, BKE, BKA, BKG, HB⟩ := hcut
            have hlI_Ak := (Kd.R_reads' HO_I.out).1
            rw [hlI_Ak] at HO_I
            (try simp only [hlI_Ak])
            (try simp only [hlI_Ak] at BKD)
            (try simp only [hlI_Ak] at BKB)
            (try simp only [hlI_Ak] at BKE)
            (try simp only [hlI_Ak] at BKA)
            (try simp only [hlI_Ak] at BKG)
            (try simp only [hlI_Ak] at HO_O)
            (try simp only [hlI_Ak] at HO_J)
            (try simp only [hlI_Ak] at HO_Bm)
            cases kq with
            | zero => exact absurd HA.out (by simp [laws_FnExactFindMatrix.j2])
            | succ kjAk =>
             have H := HA.out
             clear HA
             simp only [laws_FnExactFindMatrix.j2] at H
             by_cases cBx : x92_103 = true
             ·subst cBx
              replace H := iP H
              obtain rfl := Option.some.inj H
              go_wp2
              go_ret
              exact ⟨p8, pB⟩
             ·replace cBx := Bool.eq_false_iff.mpr cBx
              subst cBx
              replace H := iN H
              replace H := bS H
              obtain ⟨tAv, ACc, H⟩ := H
              by_cases cBt : tAv < 0
              ·rw [if_pos cBt] at H
               have c149b0 : decide (tAv < 0) = true := decide_eq_true cBt
               clear cBt
               obtain rfl := Option.some.inj H
               have hnbDi := NBA_D.out
               have hncDi := NBD_A.out
               have hnbDj := NBA_B.out
               have hncDj := NBB_A.out
               have hnbDk := NBA_E.out
               have hncDk := NBE_A.out
               have hnbDl := NBA_G.out
               have hncDl := NBG_A.out
               obtain ⟨hczBn_0, hczBn_1, hczBn_2, hczBn_3, hfzBn_0, hfzBn_1, hfzBn_2, hfzBn_3⟩ := bc4 BKA.out
               go_wp2_with (first | ((with_reducible refine gate_callee (f := 21) rfl ?_); refine goesL_ (some 95) rfl rfl Try.func21 kr rfl #[.agg #[.int .i64 tF, .int .i64 tQ, .int .i64 tT, .slice Ao37 tAb.length co37], .int .i64 1] rfl p5 ?_; (with_reducible refine (laws_heldMatrix.calls kjAk tF tQ tT _ _ tAb 1 tAv _ ?side1 ?side2 ACc.out).mono ?_); (case side1 => repeat (first | exact (Kd.R_reads' HO_I.out).2.2 | (with_reducible refine Kd.C_alloc ?_ _) | (with_reducible refine Kd.C_drewN ?_ _) | (with_reducible refine Kd.C_drew ?_))); (case side2 => exact (Kd.R_reads' HO_I.out).2.1); rintro e wEk ⟨rfl, hb⟩; refine ⟨_, rfl, ?_⟩; replace HO_O := aR HO_O hb; replace HO_J := aR HO_J hb; replace HO_I := aR HO_I hb; replace HO_Bm := aR HO_Bm hb; replace BKD := aB BKD hb; replace BKB := aB BKB hb; replace BKE := aB BKE hb; replace BKA := aB BKA hb; replace BKG := aB BKG hb; replace HB := aH hb; (try clear hb)))
               go_ret
               exact ⟨p8, pB⟩
              ·rw [if_neg cBt] at H
               have c149b0 : decide (tAv < 0) = false := decide_eq_false cBt
               clear cBt
               by_cases cBo : tAv = tAh
               ·rw [if_pos cBo] at H
                have c156b0 : (tAv == tAh) = true := beq_iff_eq.mpr cBo
                have c156b1 : (tAv != tAh) = false := bne_eq_false_iff_eq.mpr cBo
                clear cBo
                obtain rfl := Option.some.inj H
                have hnbDm := NBA_D.out
                have hncDm := NBD_A.out
                have hnbDn := NBA_B.out
                have hncDn := NBB_A.out
                have hnbDo := NBA_E.out
                have hncDo := NBE_A.out
                have hnbDp := NBA_G.out
                have hncDp := NBG_A.out
                obtain ⟨hczBp_0, hczBp_1, hczBp_2, hczBp_3, hfzBp_0, hfzBp_1, hfzBp_2, hfzBp_3⟩ := bc4 BKA.out
                go_wp2_with (first | ((with_reducible refine gate_callee (f := 21) rfl ?_); refine goesL_ (some 95) rfl rfl Try.func21 kr rfl #[.agg #[.int .i64 tF, .int .i64 tQ, .int .i64 tT, .slice Ao37 tAb.length co37], .int .i64 1] rfl p5 ?_; (with_reducible refine (laws_heldMatrix.calls kjAk tF tQ tT _ _ tAb 1 tAv _ ?side1 ?side2 ACc.out).mono ?_); (case side1 => repeat (first | exact (Kd.R_reads' HO_I.out).2.2 | (with_reducible refine Kd.C_alloc ?_ _) | (with_reducible refine Kd.C_drewN ?_ _) | (with_reducible refine Kd.C_drew ?_))); (case side2 => exact (Kd.R_reads' HO_I.out).2.1); rintro e wEl ⟨rfl, hb⟩; refine ⟨_, rfl, ?_⟩; replace HO_O := aR HO_O hb; replace HO_J := aR HO_J hb; replace HO_I := aR HO_I hb; replace HO_Bm := aR HO_Bm hb; replace BKD := aB BKD hb; replace BKB := aB BKB hb; replace BKE := aB BKE hb; replace BKA := aB BKA hb; replace BKG := aB BKG hb; replace HB := aH hb; (try clear hb)))
                go_ret
                exact ⟨p8, pB⟩
               ·rw [if_neg cBo] at H
                have c156b0 : (tAv == tAh) = false := beq_eq_false_iff_ne.mpr cBo
                have c156b1 : (tAv != tAh) = true := bne_iff_ne.mpr cBo
                obtain rfl := Option.some.inj H
                have hnbDq := NBA_D.out
                have hncDq := NBD_A.out
                have hnbDr := NBA_B.out
                have hncDr := NBB_A.out
                have hnbDs := NBA_E.out
                have hncDs := NBE_A.out
                have hnbDt := NBA_G.out
                have hncDt := NBG_A.out
                obtain ⟨hczBq_0, hczBq_1, hczBq_2, hczBq_3, hfzBq_0, hfzBq_1, hfzBq_2, hfzBq_3⟩ := bc4 BKA.out
                go_wp2_with (first | ((with_reducible refine gate_callee (f := 21) rfl ?_); refine goesL_ (some 95) rfl rfl Try.func21 kr rfl #[.agg #[.int .i64 tF, .int .i64 tQ, .int .i64 tT, .slice Ao37 tAb.length co37], .int .i64 1] rfl p5 ?_; (with_reducible refine (laws_heldMatrix.calls kjAk tF tQ tT _ _ tAb 1 tAv _ ?side1 ?side2 ACc.out).mono ?_); (case side1 => repeat (first | exact (Kd.R_reads' HO_I.out).2.2 | (with_reducible refine Kd.C_alloc ?_ _) | (with_reducible refine Kd.C_drewN ?_ _) | (with_reducible refine Kd.C_drew ?_))); (case side2 => exact (Kd.R_reads' HO_I.out).2.1); rintro e wEm ⟨rfl, hb⟩; refine ⟨_, rfl, ?_⟩; replace HO_O := aR HO_O hb; replace HO_J := aR HO_J hb; replace HO_I := aR HO_I hb; replace HO_Bm := aR HO_Bm hb; replace BKD := aB BKD hb; replace BKB := aB BKB hb; replace BKE := aB BKE hb; replace BKA := aB BKA hb; replace BKG := aB BKG hb; replace HB := aH hb; (try clear hb)))
                go_ret
                exact ⟨p8, pB⟩
          ·rw [if_neg cAz] at H
           have c101b0 : (tAp == tAh) = false := beq_eq_false_iff_ne.mpr cAz
           have c101b1 : (tAp != tAh) = true := bne_iff_ne.mpr cAz
           obtain rfl := Option.some.inj H
           have hnbDu := NBA_D.out
           have hncDu := NBD_A.out
           have hnbDv := NBA_B.out
           have hncDv := NBB_A.out
           have hnbDw := NBA_E.out
           have hncDw := NBE_A.out
           obtain ⟨hczBr_0, hczBr_1, hczBr_2, hczBr_3, hfzBr_0, hfzBr_1, hfzBr_2, hfzBr_3⟩ := bc4 BKA.out
           go_wp2_with (first | ((with_reducible refine gate_callee (f := 20) rfl ?_); refine goesL_ (some 68) rfl rfl Try.func20 kr rfl #[.agg #[.int .i64 tF, .int .i64 tQ, .int .i64 tT, .slice Ao37 tL.length co37], .int .i64 1] rfl p5 ?_; (with_reducible refine (laws_markMatrix.calls kj60 tF tQ tT (fun k_ => some k_ = (.slice Ao37 tL.length co37 : Value).ownBlock) (.slice Ao37 tL.length co37) tL 1 tAh tAb w _ ?side1 ?side2 A91.out).mono ?_); (case side1 => repeat (first | (with_reducible first | exact HB.out | apply below_alloc | apply pw_below_drewN | apply below_drew1 | refine below_set ?_ GED.out | refine below_set ?_ GEB.out | refine below_set ?_ GEE.out | refine below_set ?_ GEA.out) | exact HB.out)); (case side2 => exact Kd.R_tight rfl HO_I.out); rintro e wEn ⟨rfl, hy0, hb, hkp⟩; refine ⟨_, rfl, ?_⟩; replace HO_O := Aside0.mk (Kd.R_mono (ok' := fun k_ => some k_ ≠ (.slice Ao30 tAm.length co30 : Value).ownBlock ∧ some k_ ≠ (.slice Ao37 tL.length co37 : Value).ownBlock) (Kd.R_keptB (HO_O.out) hkp (fun k_ hk_ hs_ => (hk_.2) hs_)) (fun k_ hk_ => ⟨hk_.1.1, hk_.1.2⟩)); replace HO_J := Aside0.mk (Kd.R_mono (ok' := fun k_ => some k_ ≠ (.slice Ao23 tP.length co23 : Value).ownBlock ∧ some k_ ≠ (.slice Ao37 tL.length co37 : Value).ownBlock) (Kd.R_keptB (HO_J.out) hkp (fun k_ hk_ hs_ => (hk_.2) hs_)) (fun k_ hk_ => ⟨hk_.1.1, hk_.1.2⟩)); replace BKD := Aside0.mk (blk_kept (pK BKD.out) hkp (fun hs_ => (fun e_ => (Kd.R_ne HO_I.out BKD.out (by decide)) e_) hs_)); replace BKB := Aside0.mk (blk_kept (pK BKB.out) hkp (fun hs_ => (fun e_ => (Kd.R_ne HO_I.out BKB.out (by decide)) e_) hs_)); replace BKE := Aside0.mk (blk_kept (pK BKE.out) hkp (fun hs_ => (fun e_ => (Kd.R_ne HO_I.out BKE.out (by decide)) e_) hs_)); replace BKA := Aside0.mk (blk_kept (pK BKA.out) hkp (fun hs_ => (fun e_ => (Kd.R_ne HO_I.out BKA.out (by decide)) e_) hs_)); replace HO_I := Aside0.mk (Kd.R_reok rfl hy0 (fun k_ e_ => HO_I.out.1 k_ e_)); replace HB := Aside0.mk (hb); (try clear hb); (try clear hkp); (try clear hy0); obtain ⟨hczBs_0, hczBs_1, hczBs_2, hczBs_3, hfzBs_0, hfzBs_1, hfzBs_2, hfzBs_3⟩ := bc4 BKA.out) | ((with_reducible refine gate_callee (f := 21) rfl ?_); refine goesL_ (some 71) rfl rfl Try.func21 kr rfl #[.agg #[.int .i64 tF, .int .i64 tQ, .int .i64 tT, .slice Ao37 tAb.length co37], .int .i64 1] rfl (by (try simp only [List.map_toArray, List.map_cons, List.map_nil]); first | done | (rw [show tAb.length = tL.length from (Kd.R_reads' HO_I.out).1.symm] <;> rfl) | rfl | (simp only [List.length_drop, List.length_take]; rfl)) ?_; (with_reducible refine (laws_heldMatrix.calls kj60 tF tQ tT _ _ tAb 1 tAp _ ?side1 ?side2 A92.out).mono ?_); (case side1 => repeat (first | exact (Kd.R_reads' HO_I.out).2.2 | (with_reducible refine Kd.C_alloc ?_ _) | (with_reducible refine Kd.C_drewN ?_ _) | (with_reducible refine Kd.C_drew ?_))); (case side2 => rw [show tAb.length = tL.length from (Kd.R_reads' HO_I.out).1.symm]; exact (Kd.R_reads' HO_I.out).2.1); rintro e wEo ⟨rfl, hb⟩; refine ⟨_, rfl, ?_⟩; replace HO_O := aR HO_O hb; replace HO_J := aR HO_J hb; replace HO_I := aR HO_I hb; replace BKD := aB BKD hb; replace BKB := aB BKB hb; replace BKE := aB BKE hb; replace BKA := aB BKA hb; replace HB := aH hb; (try clear hb)))
           go_ret
           exact ⟨p8, pB⟩
     ·replace c59 := Bool.eq_false_iff.mpr c59
      subst c59
      replace H := iN H
      obtain rfl := Option.some.inj H
      try go_wp2
      replace HO_O := Aside0.mk (Kd.R_drew HO_O.out)
      replace HO_J := Aside0.mk (Kd.R_drew HO_J.out)
      replace HO_I := Aside0.mk (Kd.R_drew HO_I.out)
      replace BKD := Aside0.mk (blk_drew BKD.out)
      replace BKB := Aside0.mk (blk_drew BKB.out)
      replace BKE := Aside0.mk (blk_drew BKE.out)
      replace BKA := Aside0.mk (blk_drew BKA.out)
      replace HB := Aside0.mk (below_drew1 HB.out)
      refine start_ (n := 5) (S := fun w' => w'.cell? ⟨gbE, 0, none⟩ = some (.int .i64 tV) ∧ w'.cell? ⟨gbE, 1, none⟩ = some (.slice Ao30 tW.length co30) ∧ w'.cell? ⟨gbD, 0, none⟩ = some (.int .i64 a0_0) ∧ w'.cell? ⟨gbD, 1, none⟩ = some (.slice A0_1 l0_1.length c0_1)) (ds := []) #[false, false, false, false, false] kr rfl rfl ⟨(blk_cell BKE.out 0).trans rfl, (blk_cell BKE.out 1).trans rfl, (blk_cell BKD.out 0).trans rfl, (blk_cell BKD.out 1).trans rfl⟩ (fun hHeld => ?_)
      generalize wc.drew = wEp at HO_O HO_J HO_I BKD BKB BKE BKA HB hHeld ⊢
      refine tA4 0 45 kr hHeld ?_
      refine tA4 1 46 kr hHeld ?_
      refine one_ (i := 2) (N := some 47) #[true, true, true, false, false] rfl rfl kr (by decide) (fun K hK => ?_)
      refine goes_ Try.func9 kr rfl #[.agg #[.int .i64 a0_0, .slice A0_1 l0_1.length c0_1]] (by rfl) rfl rfl p5 ?_
      with_reducible refine (laws_toMatroid.calls kj11 a0_0 _ _ l0_1 tBd tAy _ ?side1 ?side2 A57.out).mono ?_
      (case side1 => exact pC (Kd.C_below HR0_1.out HB.out))
      (case side2 => exact HC0_1.out)
      rintro e wEq ⟨vCj, rfl, ho0, hb⟩
      refine ⟨_, rfl, ?_⟩
      have HOAj := Aside0.mk (Kd.R_lower (Kd.R_new' (Kd.R_new' (Kd.R_new' ho0 (Kd.R_lt (pR HO_O.out))) (Kd.R_lt (pR HO_J.out))) (Kd.R_lt (pR HO_I.out))) (below_size pB))
      replace HO_O := Aside0.mk (Kd.R_elder' (pR HO_O.out) (Kd.R_base ho0) hb)
      replace HO_J := Aside0.mk (Kd.R_elder' (pR HO_J.out) (Kd.R_base ho0) hb)
      replace HO_I := Aside0.mk (Kd.R_elder' (pR HO_I.out) (Kd.R_base ho0) hb)
      replace BKD := aB BKD hb
      replace BKB := aB BKB hb
      replace BKE := aB BKE hb
      replace BKA := aB BKA hb
      replace HB := aH hb
      (try clear hb)
      (try clear hb2)
      (try clear hk)
      (try clear hi)
      (try clear ho0)
      obtain ⟨AoBu, coBu, eoBu⟩ := Kd.R_slice HOAj.out
      (first | subst eoBu | (injection eoBu with f1_ f2_ f3_; have f4_ := f1_.symm; have f5_ := f3_.symm; clear f1_ f2_ f3_; subst f4_; subst f5_))
      refine hK.out _ _ ⟨(blk_cell BKE.out 0).trans rfl, (blk_cell BKE.out 1).trans rfl, (blk_cell BKD.out 0).trans rfl, (blk_cell BKD.out 1).trans rfl⟩ (fun hHeld => ?_)
      clear hK K
      refine norm_ (a' := ?_) ?_ ?_
      rotate_left
      ·show Act.put _ (some 47) _ = _
       simp only [Act.put, List.setIfInBounds_toArray, List.set_cons_zero, List.set_cons_succ, i64_w, i32_w]
       rfl
      refine one_ (i := 3) (N := some 48) #[true, true, true, true, false] rfl rfl kr (by decide) (fun K hK => ?_)
      refine goes_ Try.func11 kr rfl #[.agg #[.int .i64 tV, .slice Ao30 tW.length co30], .agg #[.int .i64 tBd, .slice AoBu tAy.length coBu]] (by rfl) rfl rfl p5 ?_
      with_reducible refine (laws_eqMatroid.calls kj11 tV _ _ tW tBd _ _ tAy false _ ?side1 ?side2 ?side3 ?side4 A58.out).mono ?_
      (case side1 => repeat (first | exact (Kd.R_reads' HO_J.out).2.2 | (with_reducible refine Kd.C_alloc ?_ _) | (with_reducible refine Kd.C_drewN ?_ _) | (with_reducible refine Kd.C_drew ?_)))
      (case side2 => exact (Kd.R_reads' HO_J.out).2.1)
      (case side3 => repeat (first | exact (Kd.R_reads' HOAj.out).2.2 | (with_reducible refine Kd.C_alloc ?_ _) | (with_reducible refine Kd.C_drewN ?_ _) | (with_reducible refine Kd.C_drew ?_)))
      (case side4 => exact (Kd.R_reads' HOAj.out).2.1)
      rintro e wEr ⟨rfl, hb⟩
      refine ⟨_, rfl, ?_⟩
      replace HO_O := aR HO_O hb
      replace HO_J := aR HO_J hb
      replace HO_I := aR HO_I hb
      replace HOAj := aR HOAj hb
      replace BKD := aB BKD hb
      replace BKB := aB BKB hb
      replace BKE := aB BKE hb
      replace BKA := aB BKA hb
      replace HB := aH hb
      (try clear hb)
      (try clear hb2)
      (try clear hk)
      (try clear hi)
      refine hK.out _ _ ⟨(blk_cell BKE.out 0).trans rfl, (blk_cell BKE.out 1).trans rfl, (blk_cell BKD.out 0).trans rfl, (blk_cell BKD.out 1).trans rfl⟩ (fun hHeld => ?_)
      clear hK K
      refine norm_ (a' := ?_) ?_ ?_
      rotate_left
      ·show Act.put _ (some 48) _ = _
       simp only [Act.put, List.setIfInBounds_toArray, List.set_cons_zero, List.set_cons_succ, i64_w, i32_w]
       rfl
      refine pA 4 49 kr ?_
      refine done_ kr ?_
      try go_wp2
      go_ret
      exact ⟨p8, pB⟩
end Go.Proofs.Ytbhckhblonkajaa.Q
