/- Part of a proof: contracts and lemmas that the row's text uses; joined by a program. -/
import Derived.Test.YtbhckhblonkajaaC04
import Derived.Test.YtbhckhblonkajaaC14
import Derived.Test.YtbhckhblonkajaaC17
import Derived.Test.YtbhckhblonkajaaC18
import Derived.Test.YtbhckhblonkajaaC19
import Derived.Test.YtbhckhblonkajaaC20
set_option linter.unusedVariables false
set_option linter.unusedSimpArgs false
namespace Go.Proofs.Ytbhckhblonkajaa.Q
open Go.RowKit Go.Proofs.YtbhckhblonkajaaW.PrintWords Go.Proofs.YtbhckhblonkajaaW.PrintLast Go.Proofs.YtbhckhblonkajaaW.PrintMore
attribute [local go_sem] max2_int min2_int max_two min_two max_three min_three max_four min_four
mutual
def spec_FindMatrix.j0 : Nat → Int → Bool → Int → List Int → Option (Int × Int × Int × List Int × Bool)
 | 0, _, _, _, _ => none
 | k + 1, x1, x23, x220000, x220001 => if x23 = true then (some (0, 0, 0, ([] : List Int), false)) else (if 0 < (x220001.length : Int) then ((spec_l26Start.f k x220000 x220001 x1 (rd x220001 0)).bind fun bt223 => (spec_FindMatrix.l0 k (rd x220001 0) x220000 x220001 bt223.1 bt223.2.1 bt223.2.2.1 bt223.2.2.2)) else (none))
def spec_FindMatrix.l0 : Nat → Int → Int → List Int → Int → Int → Int → List Int → Option (Int × Int × Int × List Int × Bool)
 | 0, _, _, _, _, _, _, _ => none
 | k + 1, x6, x220000, x220001, x230000, x230001, x230002, x230003 => (spec_FromMatrix.f k x230000 x230001 x230002 x230003).bind fun bt230 => ((spec_EqualMatroid.f k bt230.1 bt230.2 x220000 x220001).bind fun t234 => (if t234 = true then (some (x230000, x230001, x230002, x230003, true)) else ((spec_l26Next.f k x230000 x230001 x230002 x230003 x6).bind fun bt235 => (if bt235.1 = true then (spec_FindMatrix.l0 k x6 x220000 x220001 x230000 x230001 x230002 bt235.2) else (some (0, 0, 0, ([] : List Int), false))))))
end
def spec_FindMatrix.f (k : Nat) (a0_0 : Int) (l0_1 : List Int) (a1 : Int) : Option (Int × Int × Int × List Int × Bool) := (spec_IsMatroid.f k a0_0 l0_1).bind fun t221 => (if t221 = true then (if a0_0 > 6 then (spec_FindMatrix.j0 k a1 true a0_0 l0_1) else (if a1 = 2 then (spec_FindMatrix.j0 k a1 false a0_0 l0_1) else (spec_FindMatrix.j0 k a1 (a1 != 3) a0_0 l0_1))) else (spec_FindMatrix.j0 k a1 true a0_0 l0_1))
set_option maxHeartbeats 8000000 in
set_option maxRecDepth 100000 in
theorem spec_FindMatrix.calls (k : Nat) (a0_0 : Int) (A0_1 : Option Addr) (c0_1 : Nat) (l0_1 : List Int) (a1 : Int) (r1 : Int) (r2 : Int) (r3 : Int) (r4 : List Int) (r5 : Bool) (w : World) (hr0_1 : Kd.C (Kd.int .i64) w A0_1 l0_1.length l0_1) (hc0_1 : l0_1.length ≤ c0_1) (h : spec_FindMatrix.f k a0_0 l0_1 a1 = some (r1, r2, r3, r4, r5)) :
  Calls Try.prog 16 #[.agg #[.int .i64 a0_0, .slice A0_1 l0_1.length c0_1], .int .i64 a1] w fun e w' => ∃ v3_ : Value, e = .returned (.tuple #[.agg #[.int .i64 r1, .int .i64 r2, .int .i64 r3, v3_], .bool r5]) ∧ Kd.R (Kd.int .i64) 3 w' w.heap.size (fun _ => True) v3_ r4 ∧ Below w.heap.size w w' := by
 have hu27 := Try.underlying27
 have hu32 := Try.underlying32
 have HR0_1 := Aside0.mk hr0_1
 have HC0_1 := Aside0.mk hc0_1
 clear hr0_1 hc0_1
 have HB := Aside0.mk (Below.refl w.heap.size w)
 have H : ((spec_IsMatroid.f k a0_0 l0_1).bind fun t221 => (if t221 = true then (if a0_0 > 6 then (spec_FindMatrix.j0 k a1 true a0_0 l0_1) else (if a1 = 2 then (spec_FindMatrix.j0 k a1 false a0_0 l0_1) else (spec_FindMatrix.j0 k a1 (a1 != 3) a0_0 l0_1))) else (spec_FindMatrix.j0 k a1 true a0_0 l0_1))) = some (r1, r2, r3, r4, r5) := h
 clear h
 have HC3 := Aside0.mk H
 clear H
 go_enter Try.func16, Try.ntmps16
 go_upto_region 1 with (first | ((with_reducible refine gate_dst (N := 2) rfl ?_); refine box_event ?hg (N := 2) ?hd (cs := #[.int .i64 a0_0, .slice A0_1 l0_1.length c0_1]) (t := 27) ?hr ?_; (case hd => rfl); (case hg => rfl); (case hr => first | (go_simp; done) | (go_simp; rfl)); intro gb219 hg w4 hbox hb; have BK219 := Aside0.mk (hbox); have GW219 := Aside0.mk (bZ (w := w) hg); have GE219 := Aside0.mk (bZ (w := w) hg); replace HB := Aside0.mk (below_step pB hb); clear hb hbox hg) | ((with_reducible refine gate_dst (N := 4) rfl ?_); refine box_event ?hg (N := 4) ?hd (cs := #[.int .i64 0, .int .i64 0, .int .i64 0, .slice none 0 0]) (t := 32) ?hr ?_; (case hd => rfl); (case hg => rfl); (case hr => first | (go_simp; done) | (go_simp; rfl)); intro gb220 hg w5 hbox hb; have BK220 := Aside0.mk (hbox); have GW220 := Aside0.mk (bZ (w := w) hg); have GE220 := Aside0.mk (bZ (w := w) hg); replace HB := Aside0.mk (below_step pB hb); have NB219_220 := Aside0.mk (bL BK219.out hg); have NB220_219 := Aside0.mk (bG BK219.out hg); replace BK219 := Aside0.mk (bB BK219.out hb); clear hb hbox hg))
 (try simp only [Act.put, List.setIfInBounds_toArray, List.set_cons_zero, List.set_cons_succ])
 go_cut [23] (fun v23 wc => ∃ (kq : Nat) (x23_2 : Bool), v23 = .bool x23_2 ∧ Aside0 (spec_FindMatrix.j0 kq a1 x23_2 a0_0 l0_1 = some (r1, r2, r3, r4, r5)) ∧ Aside0 (kq ≤ k) ∧ Aside0 (wc.heap[gb219]? = some (.cells #[.int .i64 a0_0, (.slice A0_1 l0_1.length c0_1)] 27 (0, 0))) ∧ Aside0 (wc.heap[gb220]? = some (.cells #[.int .i64 0, .int .i64 0, .int .i64 0, (.slice none 0 0)] 32 (0, 0))) ∧ Aside0 (Below w.heap.size w wc))
 case first =>
  have H := HC3.out
  clear HC3
  replace H := bS H
  obtain ⟨t221, A6, H⟩ := H
  by_cases c7 : t221 = true
  ·subst c7
   replace H := iP H
   by_cases c8 : a0_0 > 6
   ·rw [if_pos c8] at H
    have c8b0 : decide (6 < a0_0) = true := decide_eq_true c8
    clear c8
    (first | rw [c8b0] | (simp only [i64_w, i32_w]; rw [c8b0]) | skip)
    have H' := Aside0.mk H
    clear H
    have hnb9 := NB219_220.out
    have hnc9 := NB220_219.out
    obtain ⟨hcz10_0, hcz10_1, hfz10_0, hfz10_1⟩ := bc2 BK219.out
    go_wp2_with (first | ((with_reducible refine gate_callee (f := 25) rfl ?_); refine goesL_ (some 9) rfl rfl Try.func25 kr rfl #[.agg #[.int .i64 a0_0, .slice A0_1 l0_1.length c0_1]] rfl p5 ?_; (with_reducible refine (spec_IsMatroid.calls k a0_0 _ _ l0_1 true _ ?side1 ?side2 A6.out).mono ?_); (case side1 => exact pC (Kd.C_below HR0_1.out HB.out)); (case side2 => exact HC0_1.out); rintro e w11 ⟨rfl, hb⟩; refine ⟨_, rfl, ?_⟩; replace BK219 := Aside0.mk (bB BK219.out hb); replace BK220 := Aside0.mk (bB BK220.out hb); replace HB := Aside0.mk (below_step pB hb); (try clear hb); (try clear hb2); (try clear hk); (try clear hi); obtain ⟨hcz12_0, hcz12_1, hfz12_0, hfz12_1⟩ := bc2 BK219.out))
    go_meet
    case rel => exact ⟨_, (true), p7, H', ⟨by first | omega | exact Nat.le_refl _⟩, ⟨pK BK219.out⟩, ⟨pK BK220.out⟩, ⟨pB⟩⟩
   ·rw [if_neg c8] at H
    have c8b0 : decide (6 < a0_0) = false := decide_eq_false c8
    clear c8
    (first | rw [c8b0] | (simp only [i64_w, i32_w]; rw [c8b0]) | skip)
    by_cases c13 : a1 = 2
    ·rw [if_pos c13] at H
     have c13b0 : (a1 == 2) = true := beq_iff_eq.mpr c13
     have c13b1 : (a1 != 2) = false := bne_eq_false_iff_eq.mpr c13
     clear c13
     have H' := Aside0.mk H
     clear H
     have hnb14 := NB219_220.out
     have hnc14 := NB220_219.out
     obtain ⟨hcz15_0, hcz15_1, hfz15_0, hfz15_1⟩ := bc2 BK219.out
     go_wp2_with (first | ((with_reducible refine gate_callee (f := 25) rfl ?_); refine goesL_ (some 9) rfl rfl Try.func25 kr rfl #[.agg #[.int .i64 a0_0, .slice A0_1 l0_1.length c0_1]] rfl p5 ?_; (with_reducible refine (spec_IsMatroid.calls k a0_0 _ _ l0_1 true _ ?side1 ?side2 A6.out).mono ?_); (case side1 => exact pC (Kd.C_below HR0_1.out HB.out)); (case side2 => exact HC0_1.out); rintro e w16 ⟨rfl, hb⟩; refine ⟨_, rfl, ?_⟩; replace BK219 := Aside0.mk (bB BK219.out hb); replace BK220 := Aside0.mk (bB BK220.out hb); replace HB := Aside0.mk (below_step pB hb); (try clear hb); (try clear hb2); (try clear hk); (try clear hi); obtain ⟨hcz17_0, hcz17_1, hfz17_0, hfz17_1⟩ := bc2 BK219.out))
     go_meet
     case rel => exact ⟨_, (false), p7, H', ⟨by first | omega | exact Nat.le_refl _⟩, ⟨pK BK219.out⟩, ⟨pK BK220.out⟩, ⟨pB⟩⟩
    ·rw [if_neg c13] at H
     have c13b0 : (a1 == 2) = false := beq_eq_false_iff_ne.mpr c13
     have c13b1 : (a1 != 2) = true := bne_iff_ne.mpr c13
     have H' := Aside0.mk H
     clear H
     have hnb18 := NB219_220.out
     have hnc18 := NB220_219.out
     obtain ⟨hcz19_0, hcz19_1, hfz19_0, hfz19_1⟩ := bc2 BK219.out
     go_wp2_with (first | ((with_reducible refine gate_callee (f := 25) rfl ?_); refine goesL_ (some 9) rfl rfl Try.func25 kr rfl #[.agg #[.int .i64 a0_0, .slice A0_1 l0_1.length c0_1]] rfl p5 ?_; (with_reducible refine (spec_IsMatroid.calls k a0_0 _ _ l0_1 true _ ?side1 ?side2 A6.out).mono ?_); (case side1 => exact pC (Kd.C_below HR0_1.out HB.out)); (case side2 => exact HC0_1.out); rintro e w20 ⟨rfl, hb⟩; refine ⟨_, rfl, ?_⟩; replace BK219 := Aside0.mk (bB BK219.out hb); replace BK220 := Aside0.mk (bB BK220.out hb); replace HB := Aside0.mk (below_step pB hb); (try clear hb); (try clear hb2); (try clear hk); (try clear hi); obtain ⟨hcz21_0, hcz21_1, hfz21_0, hfz21_1⟩ := bc2 BK219.out))
     go_meet
     case rel => exact ⟨_, ((a1 != 3)), p7, H', ⟨by first | omega | exact Nat.le_refl _⟩, ⟨pK BK219.out⟩, ⟨pK BK220.out⟩, ⟨pB⟩⟩
  ·replace c7 := Bool.eq_false_iff.mpr c7
   subst c7
   replace H := iN H
   have H' := Aside0.mk H
   clear H
   have hnb22 := NB219_220.out
   have hnc22 := NB220_219.out
   obtain ⟨hcz23_0, hcz23_1, hfz23_0, hfz23_1⟩ := bc2 BK219.out
   go_wp2_with (first | ((with_reducible refine gate_callee (f := 25) rfl ?_); refine goesL_ (some 9) rfl rfl Try.func25 kr rfl #[.agg #[.int .i64 a0_0, .slice A0_1 l0_1.length c0_1]] rfl p5 ?_; (with_reducible refine (spec_IsMatroid.calls k a0_0 _ _ l0_1 false _ ?side1 ?side2 A6.out).mono ?_); (case side1 => exact pC (Kd.C_below HR0_1.out HB.out)); (case side2 => exact HC0_1.out); rintro e w24 ⟨rfl, hb⟩; refine ⟨_, rfl, ?_⟩; replace BK219 := Aside0.mk (bB BK219.out hb); replace BK220 := Aside0.mk (bB BK220.out hb); replace HB := Aside0.mk (below_step pB hb); (try clear hb); (try clear hb2); (try clear hk); (try clear hi)))
   go_meet
   case rel => exact ⟨_, (true), p7, H', ⟨by first | omega | exact Nat.le_refl _⟩, ⟨pK BK219.out⟩, ⟨pK BK220.out⟩, ⟨pB⟩⟩
 case rest =>
  clear HC3
  obtain ⟨kq, x23_2, rfl, HA, HJ2, BK219, BK220, HB⟩ := hcut
  cases kq with
  | zero => exact absurd HA.out (by simp [spec_FindMatrix.j0])
  | succ kj2 =>
   have H := HA.out
   clear HA
   simp only [spec_FindMatrix.j0] at H
   by_cases c25 : x23_2 = true
   ·subst c25
    replace H := iP H
    simp only [Option.some.injEq, Prod.mk.injEq] at H
    obtain ⟨rfl, rfl, rfl, rfl, rfl⟩ := H
    have hnb26 := NB220_219.out
    have hnc26 := NB219_220.out
    obtain ⟨hcz27_0, hcz27_1, hcz27_2, hcz27_3, hfz27_0, hfz27_1, hfz27_2, hfz27_3⟩ := bc4 BK220.out
    go_wp2
    refine bodyPost_ret (results_ct rfl _ _ gb220 32 #[.int .i64 0, .int .i64 0, .int .i64 0, .slice none 0 0] (0, 0) _ rfl (by (with_reducible repeat (first | refine blk_drewN ?_ _ | refine blk_drew ?_ | refine blk_alloc ?_ _)); refine blk_put (cs := #[.int .i64 0, .int .i64 0, .int .i64 0, .slice none 0 0]) ?_ 3 _ rfl; (with_reducible repeat (first | refine blk_drewN ?_ _ | refine blk_drew ?_ | refine blk_alloc ?_ _)); refine blk_put (cs := #[.int .i64 0, .int .i64 0, .int .i64 0, .slice none 0 0]) ?_ 2 _ rfl; (with_reducible repeat (first | refine blk_drewN ?_ _ | refine blk_drew ?_ | refine blk_alloc ?_ _)); refine blk_put (cs := #[.int .i64 0, .int .i64 0, .int .i64 0, .slice none 0 0]) ?_ 1 _ rfl; (with_reducible repeat (first | refine blk_drewN ?_ _ | refine blk_drew ?_ | refine blk_alloc ?_ _)); refine blk_put (cs := #[.int .i64 0, .int .i64 0, .int .i64 0, .slice none 0 0]) ?_ 0 _ rfl; exact pK BK220.out) Try.underlying32 rfl kr) rfl ?_
    exact ⟨_, p8, p9, pB⟩
   ·replace c25 := Bool.eq_false_iff.mpr c25
    subst c25
    replace H := iN H
    by_cases c28 : 0 < (l0_1.length : Int)
    ·rw [if_pos c28] at H
     have c28b0 : decide (0 < (l0_1.length : Int)) = true := decide_eq_true c28
     have c28b1 : decide (0 < l0_1.length) = true := decide_eq_true (by omega)
     clear c28
     replace H := Option.bind_eq_some_iff.mp H
     obtain ⟨⟨t223, t224, t225, t226⟩, A290, H⟩ := H
     replace H : (spec_FindMatrix.l0 kj2 (rd l0_1 0) a0_0 l0_1 t223 t224 t225 t226) = some (r1, r2, r3, r4, r5) := H
     have A29 := Aside0.mk A290
     clear A290
     have H' := Aside0.mk H
     clear H
     have hnb30 := NB219_220.out
     have hnc30 := NB220_219.out
     obtain ⟨hcz31_0, hcz31_1, hfz31_0, hfz31_1⟩ := bc2 BK219.out
     have p222 : 0 ≤ (0 : Int) := (by omega)
     have q222 : 0 < (l0_1.length : Int) := oD
     obtain ⟨ad222, e222, hx222_0⟩ := Kd.at_int HR0_1.out 0 p222 q222
     cases e222
     have qi222 : (0 < l0_1.length) = True := eq_true (by omega)
     (try rw [show ((0 : Int)).toNat = 0 from rfl] at hx222_0)
     (try rw [Addr.add_zero'] at hx222_0)
     replace hx222_0 := (HB.out.cell (World.block_lt_of_cell? w _ hx222_0)).trans hx222_0
     replace p222 := eq_true p222
     replace q222 := eq_true q222
     go_wp2_with (first | ((with_reducible refine gate_callee (f := 26) rfl ?_); refine goesL_ (some 32) rfl rfl Try.func26 kr rfl #[.agg #[.int .i64 a0_0, .slice (some ad222) l0_1.length c0_1], .int .i64 a1, .int .i64 (rd l0_1 0)] rfl p5 ?_; (with_reducible refine (spec_l26Start.calls kj2 a0_0 _ _ l0_1 a1 (rd l0_1 0) t223 t224 t225 t226 _ ?side1 ?side2 A29.out).mono ?_); (case side1 => exact pC (Kd.C_below HR0_1.out HB.out)); (case side2 => exact HC0_1.out); rintro e w32 ⟨v227, rfl, ho0, hb⟩; refine ⟨_, rfl, ?_⟩; have HO228 := Aside0.mk (Kd.R_lower ho0 (below_size pB)); replace BK219 := Aside0.mk (bB BK219.out hb); replace BK220 := Aside0.mk (bB BK220.out hb); replace HB := Aside0.mk (below_step pB hb); (try clear hb); (try clear hb2); (try clear hk); (try clear hi); (try clear ho0)) | ((with_reducible refine gate_dst (N := 7) rfl ?_); refine box_event ?hg (N := 7) ?hd (cs := #[.int .i64 0, .int .i64 0, .int .i64 0, .slice none 0 0]) (t := 32) ?hr ?_; (case hd => rfl); (case hg => rfl); (case hr => first | (go_simp; done) | (go_simp; rfl)); intro gb229 hg w33 hbox hb; replace HO228 := Aside0.mk (Kd.R_below (pR HO228.out) hb); have BK229 := Aside0.mk (hbox); have GW229 := Aside0.mk (bZ (w := w) hg); have GE229 := Aside0.mk (bZ (w := w) hg); replace HB := Aside0.mk (below_step pB hb); have NB219_229 := Aside0.mk (bL BK219.out hg); have NB229_219 := Aside0.mk (bG BK219.out hg); replace BK219 := Aside0.mk (bB BK219.out hb); have NB220_229 := Aside0.mk (bL BK220.out hg); have NB229_220 := Aside0.mk (bG BK220.out hg); replace BK220 := Aside0.mk (bB BK220.out hb); clear hb hbox hg; have hnb34 := NB229_219.out; have hnc34 := NB219_229.out; have hnb35 := NB229_220.out; have hnc35 := NB220_229.out; obtain ⟨hcz36_0, hcz36_1, hcz36_2, hcz36_3, hfz36_0, hfz36_1, hfz36_2, hfz36_3⟩ := bc4 BK229.out; obtain ⟨Ao37, co37, eo37⟩ := Kd.R_slice HO228.out; subst eo37))
     go_loopg [] kj2 (fun kq w' => ∃ (x221000_2 : Int) (x221001_2 : Int) (x221002_2 : Int) (x230003_2 : List Int) (u230003 : Value), Aside0 (spec_FindMatrix.l0 kq (rd l0_1 0) a0_0 l0_1 t223 t224 t225 x230003_2 = some (r1, r2, r3, r4, r5)) ∧ Aside0 (kq ≤ kj2) ∧ Aside0 (Kd.R (Kd.int .i64) 3 w' w.heap.size (fun _ => True) u230003 x230003_2) ∧ Aside0 (w'.heap[gb219]? = some (.cells #[.int .i64 a0_0, (.slice (some ad222) l0_1.length c0_1)] 27 (0, 0))) ∧ Aside0 (w'.heap[gb220]? = some (.cells #[.int .i64 x221000_2, .int .i64 x221001_2, .int .i64 x221002_2, (.slice none 0 0)] 32 (0, 0))) ∧ Aside0 (w'.heap[gb229]? = some (.cells #[.int .i64 t223, .int .i64 t224, .int .i64 t225, u230003] 32 (0, 0))) ∧ Aside0 (Below w.heap.size w w'))
     case atStart => exact ⟨(0), (0), (0), (t226), (.slice Ao37 t226.length co37), H', ⟨Nat.le_refl _⟩, ⟨by (with_reducible repeat (first | apply Kd.R_alloc | apply Kd.R_drewN | apply Kd.R_drew)); exact Kd.R_mono (Kd.R_far (p := ⟨gb229, 3, none⟩) (Kd.R_far (p := ⟨gb229, 2, none⟩) (Kd.R_far (p := ⟨gb229, 1, none⟩) (Kd.R_far (p := ⟨gb229, 0, none⟩) (Kd.R_types HO228.out BK229.out (by decide)) (fun _ hk => hk.2) (.int .i64 t223)) (fun _ hk => hk.2) (.int .i64 t224)) (fun _ hk => hk.2) (.int .i64 t225)) (fun _ hk => hk.2) (.slice Ao37 t226.length co37)) (fun _ hk => trivial)⟩, ⟨by (with_reducible repeat (first | refine blk_drewN ?_ _ | refine blk_drew ?_ | refine blk_alloc ?_ _)); refine blk_far ?_ NB219_229.out _; (with_reducible repeat (first | refine blk_drewN ?_ _ | refine blk_drew ?_ | refine blk_alloc ?_ _)); refine blk_far ?_ NB219_229.out _; (with_reducible repeat (first | refine blk_drewN ?_ _ | refine blk_drew ?_ | refine blk_alloc ?_ _)); refine blk_far ?_ NB219_229.out _; (with_reducible repeat (first | refine blk_drewN ?_ _ | refine blk_drew ?_ | refine blk_alloc ?_ _)); refine blk_far ?_ NB219_229.out _; (with_reducible repeat (first | refine blk_drewN ?_ _ | refine blk_drew ?_ | refine blk_alloc ?_ _)); exact BK219.out⟩, ⟨by (with_reducible repeat (first | refine blk_drewN ?_ _ | refine blk_drew ?_ | refine blk_alloc ?_ _)); refine blk_far ?_ NB220_229.out _; (with_reducible repeat (first | refine blk_drewN ?_ _ | refine blk_drew ?_ | refine blk_alloc ?_ _)); refine blk_far ?_ NB220_229.out _; (with_reducible repeat (first | refine blk_drewN ?_ _ | refine blk_drew ?_ | refine blk_alloc ?_ _)); refine blk_far ?_ NB220_229.out _; (with_reducible repeat (first | refine blk_drewN ?_ _ | refine blk_drew ?_ | refine blk_alloc ?_ _)); refine blk_far ?_ NB220_229.out _; (with_reducible repeat (first | refine blk_drewN ?_ _ | refine blk_drew ?_ | refine blk_alloc ?_ _)); exact BK220.out⟩, ⟨by (with_reducible repeat (first | refine blk_drewN ?_ _ | refine blk_drew ?_ | refine blk_alloc ?_ _)); refine blk_put (cs := #[.int .i64 t223, .int .i64 t224, .int .i64 t225, .slice none 0 0]) ?_ 3 _ rfl; (with_reducible repeat (first | refine blk_drewN ?_ _ | refine blk_drew ?_ | refine blk_alloc ?_ _)); refine blk_put (cs := #[.int .i64 t223, .int .i64 t224, .int .i64 0, .slice none 0 0]) ?_ 2 _ rfl; (with_reducible repeat (first | refine blk_drewN ?_ _ | refine blk_drew ?_ | refine blk_alloc ?_ _)); refine blk_put (cs := #[.int .i64 t223, .int .i64 0, .int .i64 0, .slice none 0 0]) ?_ 1 _ rfl; (with_reducible repeat (first | refine blk_drewN ?_ _ | refine blk_drew ?_ | refine blk_alloc ?_ _)); refine blk_put (cs := #[.int .i64 0, .int .i64 0, .int .i64 0, .slice none 0 0]) ?_ 0 _ rfl; (with_reducible repeat (first | refine blk_drewN ?_ _ | refine blk_drew ?_ | refine blk_alloc ?_ _)); exact BK229.out⟩, ⟨pB⟩⟩
     case round =>
      clear H'
      try clear c25
      try clear c28
      try clear c28b0
      try clear c28b1
      try clear hcz31_0
      try clear hcz31_1
      try clear hcz36_0
      try clear hcz36_1
      try clear hcz36_2
      try clear hcz36_3
      try clear hfz31_0
      try clear hfz31_1
      try clear hfz36_0
      try clear hfz36_1
      try clear hfz36_2
      try clear hfz36_3
      try clear hx222_0
      try clear p222
      try clear q222
      obtain ⟨x221000_2, x221001_2, x221002_2, x230003_2, u230003, HA, HK2, HO_230003, BK219, BK220, BK229, HB⟩ := hrel
      cases gk with
      | zero => exact absurd HA.out (by simp [spec_FindMatrix.l0])
      | succ k2 =>
       have H := HA.out
       clear HA
       simp only [spec_FindMatrix.l0] at H
       replace H := Option.bind_eq_some_iff.mp H
       obtain ⟨⟨t230, t231⟩, A380, H⟩ := H
       replace H : ((spec_EqualMatroid.f k2 t230 t231 a0_0 l0_1).bind fun t234 => (if t234 = true then (some (t223, t224, t225, x230003_2, true)) else ((spec_l26Next.f k2 t223 t224 t225 x230003_2 (rd l0_1 0)).bind fun bt235 => (if bt235.1 = true then (spec_FindMatrix.l0 k2 (rd l0_1 0) a0_0 l0_1 t223 t224 t225 bt235.2) else (some (0, 0, 0, ([] : List Int), false)))))) = some (r1, r2, r3, r4, r5) := H
       have A38 := Aside0.mk A380
       clear A380
       replace H := bS H
       obtain ⟨t234, A39, H⟩ := H
       by_cases c40 : t234 = true
       ·subst c40
        replace H := iP H
        simp only [Option.some.injEq, Prod.mk.injEq] at H
        obtain ⟨rfl, rfl, rfl, rfl, rfl⟩ := H
        try go_wp2
        replace HO_230003 := Aside0.mk (Kd.R_drew HO_230003.out)
        replace BK219 := Aside0.mk (blk_drew BK219.out)
        replace BK220 := Aside0.mk (blk_drew BK220.out)
        replace BK229 := Aside0.mk (blk_drew BK229.out)
        replace HB := Aside0.mk (below_drew1 HB.out)
        obtain ⟨Ao42, co42, eo42⟩ := Kd.R_slice HO_230003.out
        (first | subst eo42 | (injection eo42 with f1_ f2_ f3_; have f4_ := f1_.symm; have f5_ := f3_.symm; clear f1_ f2_ f3_; subst f4_; subst f5_))
        refine start_ (n := 4) (S := fun w' => w'.cell? ⟨gb229, 0, none⟩ = some (.int .i64 t223) ∧ w'.cell? ⟨gb229, 1, none⟩ = some (.int .i64 t224) ∧ w'.cell? ⟨gb229, 2, none⟩ = some (.int .i64 t225) ∧ w'.cell? ⟨gb229, 3, none⟩ = some (.slice Ao42 x230003_2.length co42) ∧ w'.cell? ⟨gb219, 0, none⟩ = some (.int .i64 a0_0) ∧ w'.cell? ⟨gb219, 1, none⟩ = some (.slice (some ad222) l0_1.length c0_1)) (ds := []) #[false, false, false, false] kr rfl rfl ⟨(blk_cell BK229.out 0).trans rfl, (blk_cell BK229.out 1).trans rfl, (blk_cell BK229.out 2).trans rfl, (blk_cell BK229.out 3).trans rfl, (blk_cell BK219.out 0).trans rfl, (blk_cell BK219.out 1).trans rfl⟩ (fun hHeld => ?_)
        generalize wr.drew = w41 at HO_230003 BK219 BK220 BK229 HB hHeld ⊢
        refine tA6 0 33 kr hHeld ?_
        refine tA6 2 35 kr hHeld ?_
        refine one_ (i := 1) (N := some 34) #[true, true, true, false] rfl rfl kr (by decide) (fun K hK => ?_)
        refine goes_ Try.func28 kr rfl #[.agg #[.int .i64 t223, .int .i64 t224, .int .i64 t225, .slice Ao42 x230003_2.length co42]] (by rfl) rfl rfl p5 ?_
        with_reducible refine (spec_FromMatrix.calls k2 t223 t224 t225 _ _ x230003_2 t230 t231 _ ?side1 ?side2 A38.out).mono ?_
        (case side1 => repeat (first | exact (Kd.R_reads' HO_230003.out).2.2 | (with_reducible refine Kd.C_alloc ?_ _) | (with_reducible refine Kd.C_drewN ?_ _) | (with_reducible refine Kd.C_drew ?_)))
        (case side2 => exact (Kd.R_reads' HO_230003.out).2.1)
        rintro e w43 ⟨v232, rfl, ho0, hb⟩
        refine ⟨_, rfl, ?_⟩
        have HO233 := Aside0.mk (Kd.R_lower (Kd.R_new' ho0 (Kd.R_lt (pR HO_230003.out))) (below_size pB))
        replace HO_230003 := Aside0.mk (Kd.R_elder' (pR HO_230003.out) (Kd.R_base ho0) hb)
        replace BK219 := Aside0.mk (bB BK219.out hb)
        replace BK220 := Aside0.mk (bB BK220.out hb)
        replace BK229 := Aside0.mk (bB BK229.out hb)
        replace HB := Aside0.mk (below_step pB hb)
        (try clear hb)
        (try clear hb2)
        (try clear hk)
        (try clear hi)
        (try clear ho0)
        obtain ⟨Ao44, co44, eo44⟩ := Kd.R_slice HO233.out
        (first | subst eo44 | (injection eo44 with f1_ f2_ f3_; have f4_ := f1_.symm; have f5_ := f3_.symm; clear f1_ f2_ f3_; subst f4_; subst f5_))
        refine hK.out _ _ ⟨(blk_cell BK229.out 0).trans rfl, (blk_cell BK229.out 1).trans rfl, (blk_cell BK229.out 2).trans rfl, (blk_cell BK229.out 3).trans rfl, (blk_cell BK219.out 0).trans rfl, (blk_cell BK219.out 1).trans rfl⟩ (fun hHeld => ?_)
        clear hK K
        refine norm_ (a' := ?_) ?_ ?_
        rotate_left
        ·show Act.put _ (some 34) _ = _
         simp only [Act.put, List.setIfInBounds_toArray, List.set_cons_zero, List.set_cons_succ, i64_w, i32_w]
         rfl
        refine one_ (i := 3) (N := some 36) #[true, true, true, true] rfl rfl kr (by decide) (fun K hK => ?_)
        refine goes_ Try.func27 kr rfl #[.agg #[.int .i64 t230, .slice Ao44 t231.length co44], .agg #[.int .i64 a0_0, .slice (some ad222) l0_1.length c0_1]] (by rfl) rfl rfl p5 ?_
        with_reducible refine (spec_EqualMatroid.calls k2 t230 _ _ t231 a0_0 _ _ l0_1 true _ ?side1 ?side2 ?side3 ?side4 A39.out).mono ?_
        (case side1 => repeat (first | exact (Kd.R_reads' HO233.out).2.2 | (with_reducible refine Kd.C_alloc ?_ _) | (with_reducible refine Kd.C_drewN ?_ _) | (with_reducible refine Kd.C_drew ?_)))
        (case side2 => exact (Kd.R_reads' HO233.out).2.1)
        (case side3 => exact pC (Kd.C_below HR0_1.out HB.out))
        (case side4 => exact HC0_1.out)
        rintro e w45 ⟨rfl, hb⟩
        refine ⟨_, rfl, ?_⟩
        replace HO_230003 := Aside0.mk (Kd.R_below (pR HO_230003.out) hb)
        replace HO233 := Aside0.mk (Kd.R_below (pR HO233.out) hb)
        replace BK219 := Aside0.mk (bB BK219.out hb)
        replace BK220 := Aside0.mk (bB BK220.out hb)
        replace BK229 := Aside0.mk (bB BK229.out hb)
        replace HB := Aside0.mk (below_step pB hb)
        (try clear hb)
        (try clear hb2)
        (try clear hk)
        (try clear hi)
        refine hK.out _ _ ⟨(blk_cell BK229.out 0).trans rfl, (blk_cell BK229.out 1).trans rfl, (blk_cell BK229.out 2).trans rfl, (blk_cell BK229.out 3).trans rfl, (blk_cell BK219.out 0).trans rfl, (blk_cell BK219.out 1).trans rfl⟩ (fun hHeld => ?_)
        clear hK K
        refine norm_ (a' := ?_) ?_ ?_
        rotate_left
        ·show Act.put _ (some 36) _ = _
         simp only [Act.put, List.setIfInBounds_toArray, List.set_cons_zero, List.set_cons_succ, i64_w, i32_w]
         rfl
        refine done_ kr ?_
        have hnb46 := NB229_219.out
        have hnc46 := NB219_229.out
        have hnb47 := NB229_220.out
        have hnc47 := NB220_229.out
        obtain ⟨hcz48_0, hcz48_1, hcz48_2, hcz48_3, hfz48_0, hfz48_1, hfz48_2, hfz48_3⟩ := bc4 BK229.out
        have hnb49 := NB220_219.out
        have hnc49 := NB219_220.out
        obtain ⟨hcz50_0, hcz50_1, hcz50_2, hcz50_3, hfz50_0, hfz50_1, hfz50_2, hfz50_3⟩ := bc4 BK220.out
        try go_wp2
        refine bodyPost_ret (results_ct rfl _ _ gb220 32 #[.int .i64 t223, .int .i64 t224, .int .i64 t225, .slice Ao42 x230003_2.length co42] (0, 0) _ rfl (by (with_reducible repeat (first | refine blk_drewN ?_ _ | refine blk_drew ?_ | refine blk_alloc ?_ _)); refine blk_put (cs := #[.int .i64 t223, .int .i64 t224, .int .i64 t225, .slice none 0 0]) ?_ 3 _ rfl; (with_reducible repeat (first | refine blk_drewN ?_ _ | refine blk_drew ?_ | refine blk_alloc ?_ _)); refine blk_put (cs := #[.int .i64 t223, .int .i64 t224, .int .i64 x221002_2, .slice none 0 0]) ?_ 2 _ rfl; (with_reducible repeat (first | refine blk_drewN ?_ _ | refine blk_drew ?_ | refine blk_alloc ?_ _)); refine blk_put (cs := #[.int .i64 t223, .int .i64 x221001_2, .int .i64 x221002_2, .slice none 0 0]) ?_ 1 _ rfl; (with_reducible repeat (first | refine blk_drewN ?_ _ | refine blk_drew ?_ | refine blk_alloc ?_ _)); refine blk_put (cs := #[.int .i64 x221000_2, .int .i64 x221001_2, .int .i64 x221002_2, .slice none 0 0]) ?_ 0 _ rfl; exact pK BK220.out) Try.underlying32 rfl kr) rfl ?_
        exact ⟨_, p8, by (with_reducible repeat (first | apply Kd.R_alloc | apply Kd.R_drewN | apply Kd.R_drew)); exact Kd.R_mono (Kd.R_far (p := ⟨gb220, 3, none⟩) (Kd.R_far (p := ⟨gb220, 2, none⟩) (Kd.R_far (p := ⟨gb220, 1, none⟩) (Kd.R_far (p := ⟨gb220, 0, none⟩) (Kd.R_types HO_230003.out BK220.out (by decide)) (fun _ hk => hk.2) (.int .i64 t223)) (fun _ hk => hk.2) (.int .i64 t224)) (fun _ hk => hk.2) (.int .i64 t225)) (fun _ hk => hk.2) (.slice Ao42 x230003_2.length co42)) (fun _ hk => trivial), pB⟩
       ·replace c40 := Bool.eq_false_iff.mpr c40
        subst c40
        replace H := iN H
        replace H := Option.bind_eq_some_iff.mp H
        obtain ⟨⟨t235, t236⟩, A510, H⟩ := H
        replace H : (if t235 = true then (spec_FindMatrix.l0 k2 (rd l0_1 0) a0_0 l0_1 t223 t224 t225 t236) else (some (0, 0, 0, ([] : List Int), false))) = some (r1, r2, r3, r4, r5) := H
        have A51 := Aside0.mk A510
        clear A510
        by_cases c52 : t235 = true
        ·subst c52
         replace H := iP H
         have H' := Aside0.mk H
         clear H
         try go_wp2
         replace HO_230003 := Aside0.mk (Kd.R_drew HO_230003.out)
         replace BK219 := Aside0.mk (blk_drew BK219.out)
         replace BK220 := Aside0.mk (blk_drew BK220.out)
         replace BK229 := Aside0.mk (blk_drew BK229.out)
         replace HB := Aside0.mk (below_drew1 HB.out)
         obtain ⟨Ao54, co54, eo54⟩ := Kd.R_slice HO_230003.out
         (first | subst eo54 | (injection eo54 with f1_ f2_ f3_; have f4_ := f1_.symm; have f5_ := f3_.symm; clear f1_ f2_ f3_; subst f4_; subst f5_))
         refine start_ (n := 4) (S := fun w' => w'.cell? ⟨gb229, 0, none⟩ = some (.int .i64 t223) ∧ w'.cell? ⟨gb229, 1, none⟩ = some (.int .i64 t224) ∧ w'.cell? ⟨gb229, 2, none⟩ = some (.int .i64 t225) ∧ w'.cell? ⟨gb229, 3, none⟩ = some (.slice Ao54 x230003_2.length co54) ∧ w'.cell? ⟨gb219, 0, none⟩ = some (.int .i64 a0_0) ∧ w'.cell? ⟨gb219, 1, none⟩ = some (.slice (some ad222) l0_1.length c0_1)) (ds := []) #[false, false, false, false] kr rfl rfl ⟨(blk_cell BK229.out 0).trans rfl, (blk_cell BK229.out 1).trans rfl, (blk_cell BK229.out 2).trans rfl, (blk_cell BK229.out 3).trans rfl, (blk_cell BK219.out 0).trans rfl, (blk_cell BK219.out 1).trans rfl⟩ (fun hHeld => ?_)
         generalize wr.drew = w53 at HO_230003 BK219 BK220 BK229 HB hHeld ⊢
         refine tA6 0 33 kr hHeld ?_
         refine tA6 2 35 kr hHeld ?_
         refine one_ (i := 1) (N := some 34) #[true, true, true, false] rfl rfl kr (by decide) (fun K hK => ?_)
         refine goes_ Try.func28 kr rfl #[.agg #[.int .i64 t223, .int .i64 t224, .int .i64 t225, .slice Ao54 x230003_2.length co54]] (by rfl) rfl rfl p5 ?_
         with_reducible refine (spec_FromMatrix.calls k2 t223 t224 t225 _ _ x230003_2 t230 t231 _ ?side1 ?side2 A38.out).mono ?_
         (case side1 => repeat (first | exact (Kd.R_reads' HO_230003.out).2.2 | (with_reducible refine Kd.C_alloc ?_ _) | (with_reducible refine Kd.C_drewN ?_ _) | (with_reducible refine Kd.C_drew ?_)))
         (case side2 => exact (Kd.R_reads' HO_230003.out).2.1)
         rintro e w55 ⟨v232, rfl, ho0, hb⟩
         refine ⟨_, rfl, ?_⟩
         have HO233 := Aside0.mk (Kd.R_lower (Kd.R_new' ho0 (Kd.R_lt (pR HO_230003.out))) (below_size pB))
         replace HO_230003 := Aside0.mk (Kd.R_elder' (pR HO_230003.out) (Kd.R_base ho0) hb)
         replace BK219 := Aside0.mk (bB BK219.out hb)
         replace BK220 := Aside0.mk (bB BK220.out hb)
         replace BK229 := Aside0.mk (bB BK229.out hb)
         replace HB := Aside0.mk (below_step pB hb)
         (try clear hb)
         (try clear hb2)
         (try clear hk)
         (try clear hi)
         (try clear ho0)
         obtain ⟨Ao56, co56, eo56⟩ := Kd.R_slice HO233.out
         (first | subst eo56 | (injection eo56 with f1_ f2_ f3_; have f4_ := f1_.symm; have f5_ := f3_.symm; clear f1_ f2_ f3_; subst f4_; subst f5_))
         refine hK.out _ _ ⟨(blk_cell BK229.out 0).trans rfl, (blk_cell BK229.out 1).trans rfl, (blk_cell BK229.out 2).trans rfl, (blk_cell BK229.out 3).trans rfl, (blk_cell BK219.out 0).trans rfl, (blk_cell BK219.out 1).trans rfl⟩ (fun hHeld => ?_)
         clear hK K
         refine norm_ (a' := ?_) ?_ ?_
         rotate_left
         ·show Act.put _ (some 34) _ = _
          simp only [Act.put, List.setIfInBounds_toArray, List.set_cons_zero, List.set_cons_succ, i64_w, i32_w]
          rfl
         refine one_ (i := 3) (N := some 36) #[true, true, true, true] rfl rfl kr (by decide) (fun K hK => ?_)
         refine goes_ Try.func27 kr rfl #[.agg #[.int .i64 t230, .slice Ao56 t231.length co56], .agg #[.int .i64 a0_0, .slice (some ad222) l0_1.length c0_1]] (by rfl) rfl rfl p5 ?_
         with_reducible refine (spec_EqualMatroid.calls k2 t230 _ _ t231 a0_0 _ _ l0_1 false _ ?side1 ?side2 ?side3 ?side4 A39.out).mono ?_
         (case side1 => repeat (first | exact (Kd.R_reads' HO233.out).2.2 | (with_reducible refine Kd.C_alloc ?_ _) | (with_reducible refine Kd.C_drewN ?_ _) | (with_reducible refine Kd.C_drew ?_)))
         (case side2 => exact (Kd.R_reads' HO233.out).2.1)
         (case side3 => exact pC (Kd.C_below HR0_1.out HB.out))
         (case side4 => exact HC0_1.out)
         rintro e w57 ⟨rfl, hb⟩
         refine ⟨_, rfl, ?_⟩
         replace HO_230003 := Aside0.mk (Kd.R_below (pR HO_230003.out) hb)
         replace HO233 := Aside0.mk (Kd.R_below (pR HO233.out) hb)
         replace BK219 := Aside0.mk (bB BK219.out hb)
         replace BK220 := Aside0.mk (bB BK220.out hb)
         replace BK229 := Aside0.mk (bB BK229.out hb)
         replace HB := Aside0.mk (below_step pB hb)
         (try clear hb)
         (try clear hb2)
         (try clear hk)
         (try clear hi)
         refine hK.out _ _ ⟨(blk_cell BK229.out 0).trans rfl, (blk_cell BK229.out 1).trans rfl, (blk_cell BK229.out 2).trans rfl, (blk_cell BK229.out 3).trans rfl, (blk_cell BK219.out 0).trans rfl, (blk_cell BK219.out 1).trans rfl⟩ (fun hHeld => ?_)
         clear hK K
         refine norm_ (a' := ?_) ?_ ?_
         rotate_left
         ·show Act.put _ (some 36) _ = _
          simp only [Act.put, List.setIfInBounds_toArray, List.set_cons_zero, List.set_cons_succ, i64_w, i32_w]
          rfl
         refine done_ kr ?_
         have hnb58 := NB229_219.out
         have hnc58 := NB219_229.out
         have hnb59 := NB229_220.out
         have hnc59 := NB220_229.out
         obtain ⟨hcz60_0, hcz60_1, hcz60_2, hcz60_3, hfz60_0, hfz60_1, hfz60_2, hfz60_3⟩ := bc4 BK229.out
         try go_wp2_with (first | ((with_reducible refine gate_callee (f := 29) rfl ?_); refine goesL_ (some 40) rfl rfl Try.func29 kr rfl #[.agg #[.int .i64 t223, .int .i64 t224, .int .i64 t225, .slice Ao54 x230003_2.length co54], .int .i64 (rd l0_1 0)] rfl p5 ?_; (with_reducible refine (spec_l26Next.calls k2 t223 t224 t225 (fun k_ => some k_ = (.slice Ao54 x230003_2.length co54 : Value).ownBlock) (.slice Ao54 x230003_2.length co54) x230003_2 (rd l0_1 0) true t236 w _ ?side1 ?side2 A51.out).mono ?_); (case side1 => repeat (first | (with_reducible first | exact HB.out | apply below_alloc | apply pw_below_drewN | apply below_drew1 | refine below_set ?_ GE219.out | refine below_set ?_ GE220.out | refine below_set ?_ GE229.out) | exact HB.out)); (case side2 => exact Kd.R_tight rfl HO_230003.out); rintro e w61 ⟨rfl, hy0, hb, hkp⟩; refine ⟨_, rfl, ?_⟩; replace BK219 := Aside0.mk (blk_kept (pK BK219.out) hkp (fun hs_ => (fun e_ => (Kd.R_ne HO_230003.out BK219.out (by decide)) e_) hs_)); replace BK220 := Aside0.mk (blk_kept (pK BK220.out) hkp (fun hs_ => (fun e_ => (Kd.R_ne HO_230003.out BK220.out (by decide)) e_) hs_)); replace BK229 := Aside0.mk (blk_kept (pK BK229.out) hkp (fun hs_ => (fun e_ => (Kd.R_ne HO_230003.out BK229.out (by decide)) e_) hs_)); replace HO_230003 := Aside0.mk (Kd.R_reok rfl hy0 (fun k_ e_ => HO_230003.out.1 k_ e_)); replace HO233 := Aside0.mk (Kd.R_mono (ok' := fun k_ => some k_ ≠ (.slice Ao54 x230003_2.length co54 : Value).ownBlock) (Kd.R_keptB (HO233.out) hkp (fun k_ hk_ hs_ => (hk_.2) hs_)) (fun k_ hk_ => hk_.1.2)); replace HB := Aside0.mk (hb); (try clear hb); (try clear hkp); (try clear hy0)))
         go_roundg k2
         case measure => have := HJ2.out; have := HK2.out; omega
         case rel => exact ⟨(x221000_2), (x221001_2), (x221002_2), (t236), (.slice Ao54 x230003_2.length co54), H', ⟨by have := HJ2.out; have := HK2.out; omega⟩, ⟨by (with_reducible repeat (first | apply Kd.R_alloc | apply Kd.R_drewN | apply Kd.R_drew)); exact Kd.R_mono HO_230003.out (fun _ hk => trivial)⟩, ⟨pK BK219.out⟩, ⟨pK BK220.out⟩, ⟨pK BK229.out⟩, ⟨pB⟩⟩
        ·replace c52 := Bool.eq_false_iff.mpr c52
         subst c52
         replace H := iN H
         simp only [Option.some.injEq, Prod.mk.injEq] at H
         obtain ⟨rfl, rfl, rfl, rfl, rfl⟩ := H
         try go_wp2
         replace HO_230003 := Aside0.mk (Kd.R_drew HO_230003.out)
         replace BK219 := Aside0.mk (blk_drew BK219.out)
         replace BK220 := Aside0.mk (blk_drew BK220.out)
         replace BK229 := Aside0.mk (blk_drew BK229.out)
         replace HB := Aside0.mk (below_drew1 HB.out)
         obtain ⟨Ao63, co63, eo63⟩ := Kd.R_slice HO_230003.out
         (first | subst eo63 | (injection eo63 with f1_ f2_ f3_; have f4_ := f1_.symm; have f5_ := f3_.symm; clear f1_ f2_ f3_; subst f4_; subst f5_))
         refine start_ (n := 4) (S := fun w' => w'.cell? ⟨gb229, 0, none⟩ = some (.int .i64 t223) ∧ w'.cell? ⟨gb229, 1, none⟩ = some (.int .i64 t224) ∧ w'.cell? ⟨gb229, 2, none⟩ = some (.int .i64 t225) ∧ w'.cell? ⟨gb229, 3, none⟩ = some (.slice Ao63 x230003_2.length co63) ∧ w'.cell? ⟨gb219, 0, none⟩ = some (.int .i64 a0_0) ∧ w'.cell? ⟨gb219, 1, none⟩ = some (.slice (some ad222) l0_1.length c0_1)) (ds := []) #[false, false, false, false] kr rfl rfl ⟨(blk_cell BK229.out 0).trans rfl, (blk_cell BK229.out 1).trans rfl, (blk_cell BK229.out 2).trans rfl, (blk_cell BK229.out 3).trans rfl, (blk_cell BK219.out 0).trans rfl, (blk_cell BK219.out 1).trans rfl⟩ (fun hHeld => ?_)
         generalize wr.drew = w62 at HO_230003 BK219 BK220 BK229 HB hHeld ⊢
         refine tA6 0 33 kr hHeld ?_
         refine tA6 2 35 kr hHeld ?_
         refine one_ (i := 1) (N := some 34) #[true, true, true, false] rfl rfl kr (by decide) (fun K hK => ?_)
         refine goes_ Try.func28 kr rfl #[.agg #[.int .i64 t223, .int .i64 t224, .int .i64 t225, .slice Ao63 x230003_2.length co63]] (by rfl) rfl rfl p5 ?_
         with_reducible refine (spec_FromMatrix.calls k2 t223 t224 t225 _ _ x230003_2 t230 t231 _ ?side1 ?side2 A38.out).mono ?_
         (case side1 => repeat (first | exact (Kd.R_reads' HO_230003.out).2.2 | (with_reducible refine Kd.C_alloc ?_ _) | (with_reducible refine Kd.C_drewN ?_ _) | (with_reducible refine Kd.C_drew ?_)))
         (case side2 => exact (Kd.R_reads' HO_230003.out).2.1)
         rintro e w64 ⟨v232, rfl, ho0, hb⟩
         refine ⟨_, rfl, ?_⟩
         have HO233 := Aside0.mk (Kd.R_lower (Kd.R_new' ho0 (Kd.R_lt (pR HO_230003.out))) (below_size pB))
         replace HO_230003 := Aside0.mk (Kd.R_elder' (pR HO_230003.out) (Kd.R_base ho0) hb)
         replace BK219 := Aside0.mk (bB BK219.out hb)
         replace BK220 := Aside0.mk (bB BK220.out hb)
         replace BK229 := Aside0.mk (bB BK229.out hb)
         replace HB := Aside0.mk (below_step pB hb)
         (try clear hb)
         (try clear hb2)
         (try clear hk)
         (try clear hi)
         (try clear ho0)
         obtain ⟨Ao65, co65, eo65⟩ := Kd.R_slice HO233.out
         (first | subst eo65 | (injection eo65 with f1_ f2_ f3_; have f4_ := f1_.symm; have f5_ := f3_.symm; clear f1_ f2_ f3_; subst f4_; subst f5_))
         refine hK.out _ _ ⟨(blk_cell BK229.out 0).trans rfl, (blk_cell BK229.out 1).trans rfl, (blk_cell BK229.out 2).trans rfl, (blk_cell BK229.out 3).trans rfl, (blk_cell BK219.out 0).trans rfl, (blk_cell BK219.out 1).trans rfl⟩ (fun hHeld => ?_)
         clear hK K
         refine norm_ (a' := ?_) ?_ ?_
         rotate_left
         ·show Act.put _ (some 34) _ = _
          simp only [Act.put, List.setIfInBounds_toArray, List.set_cons_zero, List.set_cons_succ, i64_w, i32_w]
          rfl
         refine one_ (i := 3) (N := some 36) #[true, true, true, true] rfl rfl kr (by decide) (fun K hK => ?_)
         refine goes_ Try.func27 kr rfl #[.agg #[.int .i64 t230, .slice Ao65 t231.length co65], .agg #[.int .i64 a0_0, .slice (some ad222) l0_1.length c0_1]] (by rfl) rfl rfl p5 ?_
         with_reducible refine (spec_EqualMatroid.calls k2 t230 _ _ t231 a0_0 _ _ l0_1 false _ ?side1 ?side2 ?side3 ?side4 A39.out).mono ?_
         (case side1 => repeat (first | exact (Kd.R_reads' HO233.out).2.2 | (with_reducible refine Kd.C_alloc ?_ _) | (with_reducible refine Kd.C_drewN ?_ _) | (with_reducible refine Kd.C_drew ?_)))
         (case side2 => exact (Kd.R_reads' HO233.out).2.1)
         (case side3 => exact pC (Kd.C_below HR0_1.out HB.out))
         (case side4 => exact HC0_1.out)
         rintro e w66 ⟨rfl, hb⟩
         refine ⟨_, rfl, ?_⟩
         replace HO_230003 := Aside0.mk (Kd.R_below (pR HO_230003.out) hb)
         replace HO233 := Aside0.mk (Kd.R_below (pR HO233.out) hb)
         replace BK219 := Aside0.mk (bB BK219.out hb)
         replace BK220 := Aside0.mk (bB BK220.out hb)
         replace BK229 := Aside0.mk (bB BK229.out hb)
         replace HB := Aside0.mk (below_step pB hb)
         (try clear hb)
         (try clear hb2)
         (try clear hk)
         (try clear hi)
         refine hK.out _ _ ⟨(blk_cell BK229.out 0).trans rfl, (blk_cell BK229.out 1).trans rfl, (blk_cell BK229.out 2).trans rfl, (blk_cell BK229.out 3).trans rfl, (blk_cell BK219.out 0).trans rfl, (blk_cell BK219.out 1).trans rfl⟩ (fun hHeld => ?_)
         clear hK K
         refine norm_ (a' := ?_) ?_ ?_
         rotate_left
         ·show Act.put _ (some 36) _ = _
          simp only [Act.put, List.setIfInBounds_toArray, List.set_cons_zero, List.set_cons_succ, i64_w, i32_w]
          rfl
         refine done_ kr ?_
         have hnb67 := NB229_219.out
         have hnc67 := NB219_229.out
         have hnb68 := NB229_220.out
         have hnc68 := NB220_229.out
         obtain ⟨hcz69_0, hcz69_1, hcz69_2, hcz69_3, hfz69_0, hfz69_1, hfz69_2, hfz69_3⟩ := bc4 BK229.out
         try go_wp2_with (first | ((with_reducible refine gate_callee (f := 29) rfl ?_); refine goesL_ (some 40) rfl rfl Try.func29 kr rfl #[.agg #[.int .i64 t223, .int .i64 t224, .int .i64 t225, .slice Ao63 x230003_2.length co63], .int .i64 (rd l0_1 0)] rfl p5 ?_; (with_reducible refine (spec_l26Next.calls k2 t223 t224 t225 (fun k_ => some k_ = (.slice Ao63 x230003_2.length co63 : Value).ownBlock) (.slice Ao63 x230003_2.length co63) x230003_2 (rd l0_1 0) false t236 w _ ?side1 ?side2 A51.out).mono ?_); (case side1 => repeat (first | (with_reducible first | exact HB.out | apply below_alloc | apply pw_below_drewN | apply below_drew1 | refine below_set ?_ GE219.out | refine below_set ?_ GE220.out | refine below_set ?_ GE229.out) | exact HB.out)); (case side2 => exact Kd.R_tight rfl HO_230003.out); rintro e w70 ⟨rfl, hy0, hb, hkp⟩; refine ⟨_, rfl, ?_⟩; replace BK219 := Aside0.mk (blk_kept (pK BK219.out) hkp (fun hs_ => (fun e_ => (Kd.R_ne HO_230003.out BK219.out (by decide)) e_) hs_)); replace BK220 := Aside0.mk (blk_kept (pK BK220.out) hkp (fun hs_ => (fun e_ => (Kd.R_ne HO_230003.out BK220.out (by decide)) e_) hs_)); replace BK229 := Aside0.mk (blk_kept (pK BK229.out) hkp (fun hs_ => (fun e_ => (Kd.R_ne HO_230003.out BK229.out (by decide)) e_) hs_)); replace HO_230003 := Aside0.mk (Kd.R_reok rfl hy0 (fun k_ e_ => HO_230003.out.1 k_ e_)); replace HO233 := Aside0.mk (Kd.R_mono (ok' := fun k_ => some k_ ≠ (.slice Ao63 x230003_2.length co63 : Value).ownBlock) (Kd.R_keptB (HO233.out) hkp (fun k_ hk_ hs_ => (hk_.2) hs_)) (fun k_ hk_ => hk_.1.2)); replace HB := Aside0.mk (hb); (try clear hb); (try clear hkp); (try clear hy0); have hnb71 := NB220_219.out; have hnc71 := NB219_220.out; obtain ⟨hcz72_0, hcz72_1, hcz72_2, hcz72_3, hfz72_0, hfz72_1, hfz72_2, hfz72_3⟩ := bc4 BK220.out))
         refine bodyPost_ret (results_ct rfl _ _ gb220 32 #[.int .i64 0, .int .i64 0, .int .i64 0, .slice none 0 0] (0, 0) _ rfl (by (with_reducible repeat (first | refine blk_drewN ?_ _ | refine blk_drew ?_ | refine blk_alloc ?_ _)); refine blk_put (cs := #[.int .i64 0, .int .i64 0, .int .i64 0, .slice none 0 0]) ?_ 3 _ rfl; (with_reducible repeat (first | refine blk_drewN ?_ _ | refine blk_drew ?_ | refine blk_alloc ?_ _)); refine blk_put (cs := #[.int .i64 0, .int .i64 0, .int .i64 x221002_2, .slice none 0 0]) ?_ 2 _ rfl; (with_reducible repeat (first | refine blk_drewN ?_ _ | refine blk_drew ?_ | refine blk_alloc ?_ _)); refine blk_put (cs := #[.int .i64 0, .int .i64 x221001_2, .int .i64 x221002_2, .slice none 0 0]) ?_ 1 _ rfl; (with_reducible repeat (first | refine blk_drewN ?_ _ | refine blk_drew ?_ | refine blk_alloc ?_ _)); refine blk_put (cs := #[.int .i64 x221000_2, .int .i64 x221001_2, .int .i64 x221002_2, .slice none 0 0]) ?_ 0 _ rfl; exact pK BK220.out) Try.underlying32 rfl kr) rfl ?_
         exact ⟨_, p8, p9, pB⟩
    ·rw [if_neg c28] at H
     exact absurd H (by simp)
end Go.Proofs.Ytbhckhblonkajaa.Q
