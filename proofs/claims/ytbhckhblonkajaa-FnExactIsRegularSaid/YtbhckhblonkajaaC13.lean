/- Part of a proof: contracts and lemmas that the row's text uses; joined by a program. -/
import Derived.Test.YtbhckhblonkajaaC04
import Derived.Test.YtbhckhblonkajaaC06
import Derived.Test.YtbhckhblonkajaaC12
set_option linter.unusedVariables false
set_option linter.unusedSimpArgs false
namespace Go.Proofs.Ytbhckhblonkajaa.Q
open Go.RowKit Go.Proofs.YtbhckhblonkajaaW.PrintWords Go.Proofs.YtbhckhblonkajaaW.PrintLast Go.Proofs.YtbhckhblonkajaaW.PrintMore
attribute [local go_sem] max2_int min2_int max_two min_two max_three min_three max_four min_four
mutual
def impl_FindMatrix.j0 : Nat → Int → Bool → Int → List Int → Option (Int × Int × Int × List Int × Bool)
 | 0, _, _, _, _ => none
 | k + 1, x1, x28, x361000, x361001 => if x28 = true then (some (0, 0, 0, ([] : List Int), false)) else (if 0 < (x361001.length : Int) then ((impl_ElementsOf.f k (rd x361001 0)).bind fun t364 => (if 0 ≤ (wrap64 ((t364.length : Int) * x361000)) then (if (wrap64 ((t364.length : Int) * x361000) : Int).toNat ≤ 35184372088832 then (impl_FindMatrix.l0 k (rd x361001 0) (([] : List Int)) t364 (t364.length : Int) 0 x361000 x361001 x1 (t364.length : Int) x361000 (List.replicate (wrap64 ((t364.length : Int) * x361000) : Int).toNat 0)) else (none)) else (none))) else (none))
def impl_FindMatrix.l0 : Nat → Int → List Int → List Int → Int → Int → Int → List Int → Int → Int → Int → List Int → Option (Int × Int × Int × List Int × Bool)
 | 0, _, _, _, _, _, _, _, _, _, _, _ => none
 | k + 1, x6, x9, x49, x50, x51, x361000, x361001, x371000, x371001, x371002, x371003 => if x51 < x50 then (if 0 ≤ x51 then (if x51 < (x49.length : Int) then (impl_FindMatrix.l1 k x6 x9 x51 (rd x49 x51) 0 x49 x50 x51 x361000 x361001 x371000 x371001 x371002 x371003) else (none)) else (none)) else ((impl_fillCells.f k x361000 x361001 x371000 x371001 x371002 x371003 x9).bind fun bt374 => (if bt374.1 = true then (some (x371000, x371001, x371002, bt374.2, true)) else (some (0, 0, 0, ([] : List Int), false))))
def impl_FindMatrix.l1 : Nat → Int → List Int → Int → Int → Int → List Int → Int → Int → Int → List Int → Int → Int → Int → List Int → Option (Int × Int × Int × List Int × Bool)
 | 0, _, _, _, _, _, _, _, _, _, _, _, _, _, _ => none
 | k + 1, x6, x9, x10, x11, x12, x49, x50, x51, x361000, x361001, x371000, x371001, x371002, x371003 => if x12 < x361000 then (if x12 = x11 then (if 0 ≤ (wrap64 ((wrap64 (x10 * x361000)) + x12)) then (if (wrap64 ((wrap64 (x10 * x361000)) + x12)) < (x371003.length : Int) then (impl_FindMatrix.l1 k x6 x9 x10 x11 (wrap64 (x12 + 1)) x49 x50 x51 x361000 x361001 x371000 x371001 x371002 (x371003.set ((wrap64 ((wrap64 (x10 * x361000)) + x12)) : Int).toNat 1)) else (none)) else (none)) else ((impl_HasElement.f x6 x12).bind fun t378 => (if t378 = true then (impl_FindMatrix.l1 k x6 x9 x10 x11 (wrap64 (x12 + 1)) x49 x50 x51 x361000 x361001 x371000 x371001 x371002 x371003) else ((impl_circuit.f k x361000 x361001 x6 x12).bind fun t379 => ((impl_HasElement.f t379 x11).bind fun t380 => (if t380 = true then (if x9.length < 17592186044416 then (impl_FindMatrix.l1 k x6 (x9 ++ [wrap64 ((wrap64 (x10 * x361000)) + x12)]) x10 x11 (wrap64 (x12 + 1)) x49 x50 x51 x361000 x361001 x371000 x371001 x371002 x371003) else (none)) else (impl_FindMatrix.l1 k x6 x9 x10 x11 (wrap64 (x12 + 1)) x49 x50 x51 x361000 x361001 x371000 x371001 x371002 x371003))))))) else (impl_FindMatrix.l0 k x6 x9 x49 x50 (wrap64 (x51 + 1)) x361000 x361001 x371000 x371001 x371002 x371003)
end
def impl_FindMatrix.f (k : Nat) (a0_0 : Int) (l0_1 : List Int) (a1 : Int) : Option (Int × Int × Int × List Int × Bool) := (impl_IsMatroid.f k a0_0 l0_1).bind fun t362 => (if t362 = true then (if a0_0 > 6 then (impl_FindMatrix.j0 k a1 true a0_0 l0_1) else (if a1 = 2 then (impl_FindMatrix.j0 k a1 false a0_0 l0_1) else (impl_FindMatrix.j0 k a1 (a1 != 3) a0_0 l0_1))) else (impl_FindMatrix.j0 k a1 true a0_0 l0_1))
def impl_FindMatrix.T5 : Bool × List (List Nat × List Nat) := (true, [([], []), ([], []), ([1], [1]), ([], []), ([3], [3]), ([], []), ([5], [5]), ([], []), ([7], [7]), ([6, 8], [6, 8]), ([9, 9], [9]), ([0, 2, 4, 10], [0, 2, 4, 10]), ([], []), ([12, 11, 0, 1, 2, 3, 4, 5, 6, 7, 8, 9, 10, 11, 12], [11, 12])])
def impl_FindMatrix.B5 : List Nat := [0, 0, 2, 0, 8, 0, 32, 0, 128, 480, 992, 2047, 0, 8191]
theorem impl_FindMatrix.tab5 : rtab .any (opsOf Try.f17 5) = impl_FindMatrix.T5 := by kernel_rfl
theorem impl_FindMatrix.bits5 : waitsOk impl_FindMatrix.T5.2 impl_FindMatrix.B5 = true := by kernel_rfl
set_option maxHeartbeats 8000000 in
set_option maxRecDepth 100000 in
theorem impl_FindMatrix.calls (k : Nat) (a0_0 : Int) (A0_1 : Option Addr) (c0_1 : Nat) (l0_1 : List Int) (a1 : Int) (r1 : Int) (r2 : Int) (r3 : Int) (r4 : List Int) (r5 : Bool) (w : World) (hr0_1 : Kd.C (Kd.int .i64) w A0_1 l0_1.length l0_1) (hc0_1 : l0_1.length ≤ c0_1) (h : impl_FindMatrix.f k a0_0 l0_1 a1 = some (r1, r2, r3, r4, r5)) :
  Calls Try.prog 17 #[.agg #[.int .i64 a0_0, .slice A0_1 l0_1.length c0_1], .int .i64 a1] w fun e w' => ∃ v3_ : Value, e = .returned (.tuple #[.agg #[.int .i64 r1, .int .i64 r2, .int .i64 r3, v3_], .bool r5]) ∧ Kd.R (Kd.int .i64) 3 w' w.heap.size (fun _ => True) v3_ r4 ∧ Below w.heap.size w w' := by
 have hu27 := Try.underlying27
 have hu32 := Try.underlying32
 have HR0_1 := Aside0.mk hr0_1
 have HC0_1 := Aside0.mk hc0_1
 clear hr0_1 hc0_1
 have HB := Aside0.mk (Below.refl w.heap.size w)
 have H : ((impl_IsMatroid.f k a0_0 l0_1).bind fun t362 => (if t362 = true then (if a0_0 > 6 then (impl_FindMatrix.j0 k a1 true a0_0 l0_1) else (if a1 = 2 then (impl_FindMatrix.j0 k a1 false a0_0 l0_1) else (impl_FindMatrix.j0 k a1 (a1 != 3) a0_0 l0_1))) else (impl_FindMatrix.j0 k a1 true a0_0 l0_1))) = some (r1, r2, r3, r4, r5) := h
 clear h
 have HC3 := Aside0.mk H
 clear H
 go_enter Try.func17, Try.ntmps17
 go_upto_region 1 with (first | ((with_reducible refine gate_dst (N := 2) rfl ?_); refine box_event ?hg (N := 2) ?hd (cs := #[.int .i64 a0_0, .slice A0_1 l0_1.length c0_1]) (t := 27) ?hr ?_; (case hd => rfl); (case hg => rfl); (case hr => first | (go_simp; done) | (go_simp; rfl)); intro gb360 hg w4 hbox hb; have BK360 := Aside0.mk (hbox); have GW360 := Aside0.mk (bZ (w := w) hg); have GE360 := Aside0.mk (bZ (w := w) hg); replace HB := Aside0.mk (below_step pB hb); clear hb hbox hg) | ((with_reducible refine gate_dst (N := 4) rfl ?_); refine box_event ?hg (N := 4) ?hd (cs := #[.int .i64 0, .int .i64 0, .int .i64 0, .slice none 0 0]) (t := 32) ?hr ?_; (case hd => rfl); (case hg => rfl); (case hr => first | (go_simp; done) | (go_simp; rfl)); intro gb361 hg w5 hbox hb; have BK361 := Aside0.mk (hbox); have GW361 := Aside0.mk (bZ (w := w) hg); have GE361 := Aside0.mk (bZ (w := w) hg); replace HB := Aside0.mk (below_step pB hb); have NB360_361 := Aside0.mk (bL BK360.out hg); have NB361_360 := Aside0.mk (bG BK360.out hg); replace BK360 := Aside0.mk (bB BK360.out hb); clear hb hbox hg))
 (try simp only [Act.put, List.setIfInBounds_toArray, List.set_cons_zero, List.set_cons_succ])
 go_cut [28] (fun v28 wc => ∃ (kq : Nat) (x28_2 : Bool), v28 = .bool x28_2 ∧ Aside0 (impl_FindMatrix.j0 kq a1 x28_2 a0_0 l0_1 = some (r1, r2, r3, r4, r5)) ∧ Aside0 (kq ≤ k) ∧ Aside0 (wc.heap[gb360]? = some (.cells #[.int .i64 a0_0, (.slice A0_1 l0_1.length c0_1)] 27 (0, 0))) ∧ Aside0 (wc.heap[gb361]? = some (.cells #[.int .i64 0, .int .i64 0, .int .i64 0, (.slice none 0 0)] 32 (0, 0))) ∧ Aside0 (Below w.heap.size w wc))
 case first =>
  have H := HC3.out
  clear HC3
  replace H := bS H
  obtain ⟨t362, A6, H⟩ := H
  by_cases c7 : t362 = true
  ·subst c7
   replace H := iP H
   by_cases c8 : a0_0 > 6
   ·rw [if_pos c8] at H
    have c8b0 : decide (6 < a0_0) = true := decide_eq_true c8
    clear c8
    (first | rw [c8b0] | (simp only [i64_w, i32_w]; rw [c8b0]) | skip)
    have H' := Aside0.mk H
    clear H
    have hnb9 := NB360_361.out
    have hnc9 := NB361_360.out
    obtain ⟨hcz10_0, hcz10_1, hfz10_0, hfz10_1⟩ := bc2 BK360.out
    go_wp2_with (first | ((with_reducible refine gate_callee (f := 30) rfl ?_); refine goesL_ (some 14) rfl rfl Try.func30 kr rfl #[.agg #[.int .i64 a0_0, .slice A0_1 l0_1.length c0_1]] rfl p5 ?_; (with_reducible refine (impl_IsMatroid.calls k a0_0 _ _ l0_1 true _ ?side1 ?side2 A6.out).mono ?_); (case side1 => exact pC (Kd.C_below HR0_1.out HB.out)); (case side2 => exact HC0_1.out); rintro e w11 ⟨rfl, hb⟩; refine ⟨_, rfl, ?_⟩; replace BK360 := Aside0.mk (bB BK360.out hb); replace BK361 := Aside0.mk (bB BK361.out hb); replace HB := Aside0.mk (below_step pB hb); (try clear hb); (try clear hb2); (try clear hk); (try clear hi); obtain ⟨hcz12_0, hcz12_1, hfz12_0, hfz12_1⟩ := bc2 BK360.out))
    go_meet
    case rel => exact ⟨_, (true), p7, H', ⟨by first | omega | exact Nat.le_refl _⟩, ⟨pK BK360.out⟩, ⟨pK BK361.out⟩, ⟨pB⟩⟩
   ·rw [if_neg c8] at H
    have c8b0 : decide (6 < a0_0) = false := decide_eq_false c8
    clear c8
    (first | rw [c8b0] | (simp only [i64_w, i32_w]; rw [c8b0]) | skip)
    by_cases c13 : a1 = 2
    ·rw [if_pos c13] at H
     have c13b0 : (a1 == 2) = true := beq_iff_eq.mpr c13
     have c13b1 : (a1 != 2) = false := bne_eq_false_iff_eq.mpr c13
     clear c13
     have H' := Aside0.mk H
     clear H
     have hnb14 := NB360_361.out
     have hnc14 := NB361_360.out
     obtain ⟨hcz15_0, hcz15_1, hfz15_0, hfz15_1⟩ := bc2 BK360.out
     go_wp2_with (first | ((with_reducible refine gate_callee (f := 30) rfl ?_); refine goesL_ (some 14) rfl rfl Try.func30 kr rfl #[.agg #[.int .i64 a0_0, .slice A0_1 l0_1.length c0_1]] rfl p5 ?_; (with_reducible refine (impl_IsMatroid.calls k a0_0 _ _ l0_1 true _ ?side1 ?side2 A6.out).mono ?_); (case side1 => exact pC (Kd.C_below HR0_1.out HB.out)); (case side2 => exact HC0_1.out); rintro e w16 ⟨rfl, hb⟩; refine ⟨_, rfl, ?_⟩; replace BK360 := Aside0.mk (bB BK360.out hb); replace BK361 := Aside0.mk (bB BK361.out hb); replace HB := Aside0.mk (below_step pB hb); (try clear hb); (try clear hb2); (try clear hk); (try clear hi); obtain ⟨hcz17_0, hcz17_1, hfz17_0, hfz17_1⟩ := bc2 BK360.out))
     go_meet
     case rel => exact ⟨_, (false), p7, H', ⟨by first | omega | exact Nat.le_refl _⟩, ⟨pK BK360.out⟩, ⟨pK BK361.out⟩, ⟨pB⟩⟩
    ·rw [if_neg c13] at H
     have c13b0 : (a1 == 2) = false := beq_eq_false_iff_ne.mpr c13
     have c13b1 : (a1 != 2) = true := bne_iff_ne.mpr c13
     have H' := Aside0.mk H
     clear H
     have hnb18 := NB360_361.out
     have hnc18 := NB361_360.out
     obtain ⟨hcz19_0, hcz19_1, hfz19_0, hfz19_1⟩ := bc2 BK360.out
     go_wp2_with (first | ((with_reducible refine gate_callee (f := 30) rfl ?_); refine goesL_ (some 14) rfl rfl Try.func30 kr rfl #[.agg #[.int .i64 a0_0, .slice A0_1 l0_1.length c0_1]] rfl p5 ?_; (with_reducible refine (impl_IsMatroid.calls k a0_0 _ _ l0_1 true _ ?side1 ?side2 A6.out).mono ?_); (case side1 => exact pC (Kd.C_below HR0_1.out HB.out)); (case side2 => exact HC0_1.out); rintro e w20 ⟨rfl, hb⟩; refine ⟨_, rfl, ?_⟩; replace BK360 := Aside0.mk (bB BK360.out hb); replace BK361 := Aside0.mk (bB BK361.out hb); replace HB := Aside0.mk (below_step pB hb); (try clear hb); (try clear hb2); (try clear hk); (try clear hi); obtain ⟨hcz21_0, hcz21_1, hfz21_0, hfz21_1⟩ := bc2 BK360.out))
     go_meet
     case rel => exact ⟨_, ((a1 != 3)), p7, H', ⟨by first | omega | exact Nat.le_refl _⟩, ⟨pK BK360.out⟩, ⟨pK BK361.out⟩, ⟨pB⟩⟩
  ·replace c7 := Bool.eq_false_iff.mpr c7
   subst c7
   replace H := iN H
   have H' := Aside0.mk H
   clear H
   have hnb22 := NB360_361.out
   have hnc22 := NB361_360.out
   obtain ⟨hcz23_0, hcz23_1, hfz23_0, hfz23_1⟩ := bc2 BK360.out
   go_wp2_with (first | ((with_reducible refine gate_callee (f := 30) rfl ?_); refine goesL_ (some 14) rfl rfl Try.func30 kr rfl #[.agg #[.int .i64 a0_0, .slice A0_1 l0_1.length c0_1]] rfl p5 ?_; (with_reducible refine (impl_IsMatroid.calls k a0_0 _ _ l0_1 false _ ?side1 ?side2 A6.out).mono ?_); (case side1 => exact pC (Kd.C_below HR0_1.out HB.out)); (case side2 => exact HC0_1.out); rintro e w24 ⟨rfl, hb⟩; refine ⟨_, rfl, ?_⟩; replace BK360 := Aside0.mk (bB BK360.out hb); replace BK361 := Aside0.mk (bB BK361.out hb); replace HB := Aside0.mk (below_step pB hb); (try clear hb); (try clear hb2); (try clear hk); (try clear hi)))
   go_meet
   case rel => exact ⟨_, (true), p7, H', ⟨by first | omega | exact Nat.le_refl _⟩, ⟨pK BK360.out⟩, ⟨pK BK361.out⟩, ⟨pB⟩⟩
 case rest =>
  clear HC3
  obtain ⟨kq, x28_2, rfl, HA, HJ2, BK360, BK361, HB⟩ := hcut
  cases kq with
  | zero => exact absurd HA.out (by simp [impl_FindMatrix.j0])
  | succ kj2 =>
   have H := HA.out
   clear HA
   simp only [impl_FindMatrix.j0] at H
   by_cases c25 : x28_2 = true
   ·subst c25
    replace H := iP H
    simp only [Option.some.injEq, Prod.mk.injEq] at H
    obtain ⟨rfl, rfl, rfl, rfl, rfl⟩ := H
    have hnb26 := NB361_360.out
    have hnc26 := NB360_361.out
    obtain ⟨hcz27_0, hcz27_1, hcz27_2, hcz27_3, hfz27_0, hfz27_1, hfz27_2, hfz27_3⟩ := bc4 BK361.out
    go_wp2
    refine bodyPost_ret (results_ct rfl _ _ gb361 32 #[.int .i64 0, .int .i64 0, .int .i64 0, .slice none 0 0] (0, 0) _ rfl (by (with_reducible repeat (first | refine blk_drewN ?_ _ | refine blk_drew ?_ | refine blk_alloc ?_ _)); refine blk_put (cs := #[.int .i64 0, .int .i64 0, .int .i64 0, .slice none 0 0]) ?_ 3 _ rfl; (with_reducible repeat (first | refine blk_drewN ?_ _ | refine blk_drew ?_ | refine blk_alloc ?_ _)); refine blk_put (cs := #[.int .i64 0, .int .i64 0, .int .i64 0, .slice none 0 0]) ?_ 2 _ rfl; (with_reducible repeat (first | refine blk_drewN ?_ _ | refine blk_drew ?_ | refine blk_alloc ?_ _)); refine blk_put (cs := #[.int .i64 0, .int .i64 0, .int .i64 0, .slice none 0 0]) ?_ 1 _ rfl; (with_reducible repeat (first | refine blk_drewN ?_ _ | refine blk_drew ?_ | refine blk_alloc ?_ _)); refine blk_put (cs := #[.int .i64 0, .int .i64 0, .int .i64 0, .slice none 0 0]) ?_ 0 _ rfl; exact pK BK361.out) Try.underlying32 rfl kr) rfl ?_
    exact ⟨_, p8, p9, pB⟩
   ·replace c25 := Bool.eq_false_iff.mpr c25
    subst c25
    replace H := iN H
    by_cases c28 : 0 < (l0_1.length : Int)
    ·rw [if_pos c28] at H
     have c28b0 : decide (0 < (l0_1.length : Int)) = true := decide_eq_true c28
     have c28b1 : decide (0 < l0_1.length) = true := decide_eq_true (by omega)
     clear c28
     replace H := bS H
     obtain ⟨t364, A29, H⟩ := H
     obtain ⟨ji30, hji30⟩ : ∃ j_ : Int, (wrap64 ((t364.length : Int) * a0_0)) = j_ := ⟨_, rfl⟩
     replace H : (if 0 ≤ (ji30) then (if (ji30 : Int).toNat ≤ 35184372088832 then (impl_FindMatrix.l0 kj2 (rd l0_1 0) (([] : List Int)) t364 (t364.length : Int) 0 a0_0 l0_1 a1 (t364.length : Int) a0_0 (List.replicate (ji30 : Int).toNat 0)) else (none)) else (none)) = some (r1, r2, r3, r4, r5) := by first | (rw [hji30] at H; exact H) | (simp only [hji30] at H ⊢; exact H)
     (try rw [hji30] at A29)
     have hji30w : (IntKind.i64.wrap ((t364.length : Int) * a0_0)) = ji30 := (i64_w _).trans hji30
     by_cases c31 : 0 ≤ (ji30)
     ·rw [if_pos c31] at H
      have c31b0 := eq_true c31
      have c31b1 : decide (0 ≤ (ji30)) = true := decide_eq_true c31
      clear c31
      by_cases c32 : (ji30 : Int).toNat ≤ 35184372088832
      ·rw [if_pos c32] at H
       have c32b0 := eq_true c32
       have c32b1 : decide ((ji30 : Int).toNat ≤ 35184372088832) = true := decide_eq_true c32
       clear c32
       obtain ⟨y367, hy367⟩ : ∃ y_ : List Int, y_ = (List.replicate (ji30 : Int).toNat 0) := ⟨_, rfl⟩
       replace H : (impl_FindMatrix.l0 kj2 (rd l0_1 0) (([] : List Int)) t364 (t364.length : Int) 0 a0_0 l0_1 a1 (t364.length : Int) a0_0 y367) = some (r1, r2, r3, r4, r5) := by first | (rw [hy367]; with_reducible exact H) | (have H2_ := (Option.bind_some _ _).symm.trans H; rw [hy367]; with_reducible exact H2_) | (have H2_ := (Option.bind_some _ _).symm.trans H; with_reducible exact H2_) | with_reducible exact H | (rw [hy367]; exact H) | exact H
       have Ny367 := Aside0.mk hy367
       clear hy367
       obtain ⟨y371, hy371⟩ : ∃ y_ : List Int, y_ = (([] : List Int)) := ⟨_, rfl⟩
       replace H : (impl_FindMatrix.l0 kj2 (rd l0_1 0) y371 t364 (t364.length : Int) 0 a0_0 l0_1 a1 (t364.length : Int) a0_0 y367) = some (r1, r2, r3, r4, r5) := by first | (rw [hy371]; with_reducible exact H) | (have H2_ := (Option.bind_some _ _).symm.trans H; rw [hy371]; with_reducible exact H2_) | (have H2_ := (Option.bind_some _ _).symm.trans H; with_reducible exact H2_) | with_reducible exact H | (rw [hy371]; exact H) | exact H
       have Ny371 := Aside0.mk hy371
       clear hy371
       have H' := Aside0.mk H
       clear H
       have hnb33 := NB360_361.out
       have hnc33 := NB361_360.out
       obtain ⟨hcz34_0, hcz34_1, hfz34_0, hfz34_1⟩ := bc2 BK360.out
       have p363 : 0 ≤ (0 : Int) := (by omega)
       have q363 : 0 < (l0_1.length : Int) := oD
       obtain ⟨ad363, e363, hx363_0⟩ := Kd.at_int HR0_1.out 0 p363 q363
       cases e363
       have qi363 : (0 < l0_1.length) = True := eq_true (by omega)
       (try rw [show ((0 : Int)).toNat = 0 from rfl] at hx363_0)
       (try rw [Addr.add_zero'] at hx363_0)
       replace hx363_0 := (HB.out.cell (World.block_lt_of_cell? w _ hx363_0)).trans hx363_0
       replace p363 := eq_true p363
       replace q363 := eq_true q363
       try go_wp2_with (first | ((with_reducible refine gate_callee (f := 31) rfl ?_); refine goesL_ (some 35) rfl rfl Try.func31 kr rfl #[.int .i64 (rd l0_1 0)] rfl p5 ?_; (with_reducible refine (impl_ElementsOf.calls kj2 (rd l0_1 0) t364 _ A29.out).mono ?_); rintro e w35 ⟨v365, rfl, ho0, hb⟩; refine ⟨_, rfl, ?_⟩; have HO366 := Aside0.mk (Kd.R_lower ho0 (below_size pB)); replace BK360 := Aside0.mk (bB BK360.out hb); replace BK361 := Aside0.mk (bB BK361.out hb); replace HB := Aside0.mk (below_step pB hb); (try clear hb); (try clear hb2); (try clear hk); (try clear hi); (try clear ho0)))
       replace HO366 := Aside0.mk (Kd.R_drew HO366.out)
       replace BK360 := Aside0.mk (blk_drew BK360.out)
       replace BK361 := Aside0.mk (blk_drew BK361.out)
       replace HB := Aside0.mk (below_drew1 HB.out)
       obtain ⟨Ao37, co37, eo37⟩ := Kd.R_slice HO366.out
       (first | subst eo37 | (injection eo37 with f1_ f2_ f3_; have f4_ := f1_.symm; have f5_ := f3_.symm; clear f1_ f2_ f3_; subst f4_; subst f5_))
       refine start_ (n := 14) (S := fun w' => w'.cell? ⟨gb360, 0, none⟩ = some (.int .i64 a0_0) ∧ w'.cell? ⟨gb360, 1, none⟩ = some (.slice (some ad363) l0_1.length c0_1)) (ds := []) #[false, false, false, false, false, false, false, false, false, false, false, false, false, false] kr rfl rfl ⟨(blk_cell BK360.out 0).trans rfl, (blk_cell BK360.out 1).trans rfl⟩ (fun hHeld => ?_); refine with_tabW impl_FindMatrix.tab5 impl_FindMatrix.bits5 (fun HT_ HW_ => ?_)
       generalize w35.drew = w36 at HO366 BK360 BK361 HB hHeld ⊢
       refine pA 0 36 (any_of HT_.out kr) ?_
       refine pA 1 37 (any_of HT_.out kr) ?_
       refine pA 2 38 (any_of HT_.out kr) ?_
       refine pA 3 39 (any_of HT_.out kr) ?_
       refine pA 5 41 (any_of HT_.out kr) ?_
       refine pA 6 42 (any_of HT_.out kr) ?_
       refine pA 7 43 (any_of HT_.out kr) ?_
       refine tA2 4 40 (take_ofW HT_.out HW_.out kr) hHeld ?_
       refine tA2 8 44 (take_ofW HT_.out HW_.out kr) hHeld ?_
       refine pA 9 45 (any_of HT_.out kr) ?_
       refine join_ (σ := Value × Nat) 1 #[true, true, true, true, true, true, true, true, true, true, true, true, true, false] (fun s_ => [(46, s_.1), (8, .pointer (some ⟨s_.2, 0, none⟩)), (47, .agg #[.int .i64 a1, .int .i64 (t364.length : Int), .int .i64 a0_0, s_.1])]) (fun s_ w' => (w'.cell? ⟨gb360, 0, none⟩ = some (.int .i64 a0_0) ∧ w'.cell? ⟨gb360, 1, none⟩ = some (.slice (some ad363) l0_1.length c0_1)) ∧ (Kd.R (Kd.int .i64) 3 w' w.heap.size (fun k_ => some k_ ≠ (s_.1 : Value).ownBlock) (.slice Ao37 t364.length co37) t364) ∧ (Kd.R (Kd.int .i64) 3 w' w.heap.size (fun k_ => some k_ ≠ (.slice Ao37 t364.length co37 : Value).ownBlock) s_.1 y367) ∧ (w'.heap[gb360]? = some (.cells #[.int .i64 a0_0, .slice (some ad363) l0_1.length c0_1] 27 (0, 0))) ∧ (w'.heap[gb361]? = some (.cells #[.int .i64 0, .int .i64 0, .int .i64 0, .slice none 0 0] 32 (0, 0))) ∧ (w'.heap[s_.2]? = some (.cells #[.int .i64 0, .int .i64 0, .int .i64 0, .slice none 0 0] 32 (0, 0))) ∧ (w.heap.size ≤ s_.2) ∧ (w.heap.size ≤ s_.2) ∧ (gb360 ≠ s_.2) ∧ (s_.2 ≠ gb360) ∧ (gb361 ≠ s_.2) ∧ (s_.2 ≠ gb361) ∧ (Below w.heap.size w w')) ?_ ?_
       rotate_left
       ·intro hCont
        refine two_ (i := 10) (j := 12) (Ni := some 46) (Nj := some 8) #[true, true, true, true, true, true, true, true, true, true, true, false, false, false] #[true, true, true, true, true, true, true, true, true, true, false, false, true, false] rfl rfl rfl rfl (two_of HT_.out kr) (by decide) (by decide) (fun K hK => ?_) (fun K hK => ?_)
        ·skip
         refine Kd.R_make_step (Kd.int .i64) _ 3 (by rfl) (N := 46) rfl 22 _ _ rfl ji30 rfl rfl Try.underlying22 (.int .i64 0) 8 info3 rfl (by decide) (by omega) 0 (ok := fun _ => True) (okp := fun _ => True) rfl (fun _ hk => hk) trivial (oD) (Nat.le_trans (Nat.mul_le_mul_right _ (oD : ji30.toNat ≤ 35184372088832)) (by omega)) (Below.refl _ _) (Nat.le_refl _) ?_
         intro v368 w38 ho39 hb hg_ hnew_
         clear hg_ hnew_
         (first | rw [← Ny367.out] at ho39 | (simp only [Int.reduceToNat] at ho39; rw [← Ny367.out] at ho39))
         have HO369 := Aside0.mk (Kd.R_lower (Kd.R_new' ho39 (Kd.R_lt (pR HO366.out))) (below_size pB))
         replace HO366 := Aside0.mk (Kd.R_elder' (pR HO366.out) (Kd.R_base ho39) hb)
         replace BK360 := Aside0.mk (bB BK360.out hb)
         replace BK361 := Aside0.mk (bB BK361.out hb)
         replace HB := Aside0.mk (below_step pB hb)
         clear hb ho39
         obtain ⟨Ao40, co40, eo40⟩ := Kd.R_slice HO369.out
         (first | subst eo40 | (injection eo40 with f1_ f2_ f3_; have f4_ := f1_.symm; have f5_ := f3_.symm; clear f1_ f2_ f3_; subst f4_; subst f5_))
         refine hK.out _ _ ⟨(blk_cell BK360.out 0).trans rfl, (blk_cell BK360.out 1).trans rfl⟩ (fun hHeld => ?_)
         clear hK K
         refine norm_ (a' := ?_) ?_ ?_
         rotate_left
         ·show Act.put _ (some 46) _ = _
          simp only [Act.put, List.setIfInBounds_toArray, List.set_cons_zero, List.set_cons_succ, i64_w, i32_w]
          rfl
         refine pA 11 47 (any_of HT_.out kr) ?_
         refine one_ (i := 12) (N := some 8) #[true, true, true, true, true, true, true, true, true, true, true, true, true, false] rfl rfl (one_of HT_.out kr) (by decide) (fun K hK => ?_)
         refine box_step ?hg (N := 8) ?hd (cs := #[.int .i64 0, .int .i64 0, .int .i64 0, .slice none 0 0]) (t := 32) ?hr ?_; (case hd => rfl); (case hg => rfl); (case hr => first | (go_simp; done) | (go_simp; rfl))
         intro gb370 hg w41 hbox hb
         replace HO366 := Aside0.mk (Kd.R_below (pR HO366.out) hb)
         replace HO369 := Aside0.mk (Kd.R_below (pR HO369.out) hb)
         have BK370 := Aside0.mk (hbox)
         have GW370 := Aside0.mk (bZ (w := w) hg)
         have GE370 := Aside0.mk (bZ (w := w) hg)
         replace HB := Aside0.mk (below_step pB hb)
         have NB360_370 := Aside0.mk (bL BK360.out hg)
         have NB370_360 := Aside0.mk (bG BK360.out hg)
         replace BK360 := Aside0.mk (bB BK360.out hb)
         have NB361_370 := Aside0.mk (bL BK361.out hg)
         have NB370_361 := Aside0.mk (bG BK361.out hg)
         replace BK361 := Aside0.mk (bB BK361.out hb)
         clear hb hbox hg
         refine hK.out _ _ ⟨(blk_cell BK360.out 0).trans rfl, (blk_cell BK360.out 1).trans rfl⟩ (fun hHeld => ?_)
         clear hK K
         refine norm_ (a' := ?_) ?_ ?_
         rotate_left
         ·show Act.put _ (some 8) _ = _
          simp only [Act.put, List.setIfInBounds_toArray, List.set_cons_zero, List.set_cons_succ, i64_w, i32_w]
          rfl
         exact norm_ (by simp only [putAll, Act.put, List.setIfInBounds_toArray, List.set_cons_zero, List.set_cons_succ]) (hCont (.slice Ao40 y367.length co40, gb370) _ ⟨hHeld, (by (with_reducible repeat (first | apply Kd.R_alloc | apply Kd.R_drewN | apply Kd.R_drew)); exact Kd.R_mono HO366.out (fun _ hk => hk.2)), (by (with_reducible repeat (first | apply Kd.R_alloc | apply Kd.R_drewN | apply Kd.R_drew)); exact Kd.R_mono HO369.out (fun _ hk => hk.2)), (pK BK360.out), (pK BK361.out), (pK BK370.out), GW370.out, GE370.out, NB360_370.out, NB370_360.out, NB361_370.out, NB370_361.out, pB⟩)
        ·skip
         refine box_step ?hg (N := 8) ?hd (cs := #[.int .i64 0, .int .i64 0, .int .i64 0, .slice none 0 0]) (t := 32) ?hr ?_; (case hd => rfl); (case hg => rfl); (case hr => first | (go_simp; done) | (go_simp; rfl))
         intro gb370 hg w38 hbox hb
         replace HO366 := Aside0.mk (Kd.R_below (pR HO366.out) hb)
         have BK370 := Aside0.mk (hbox)
         have GW370 := Aside0.mk (bZ (w := w) hg)
         have GE370 := Aside0.mk (bZ (w := w) hg)
         replace HB := Aside0.mk (below_step pB hb)
         have NB360_370 := Aside0.mk (bL BK360.out hg)
         have NB370_360 := Aside0.mk (bG BK360.out hg)
         replace BK360 := Aside0.mk (bB BK360.out hb)
         have NB361_370 := Aside0.mk (bL BK361.out hg)
         have NB370_361 := Aside0.mk (bG BK361.out hg)
         replace BK361 := Aside0.mk (bB BK361.out hb)
         clear hb hbox hg
         refine hK.out _ _ ⟨(blk_cell BK360.out 0).trans rfl, (blk_cell BK360.out 1).trans rfl⟩ (fun hHeld => ?_)
         clear hK K
         refine norm_ (a' := ?_) ?_ ?_
         rotate_left
         ·show Act.put _ (some 8) _ = _
          simp only [Act.put, List.setIfInBounds_toArray, List.set_cons_zero, List.set_cons_succ, i64_w, i32_w]
          rfl
         refine one_ (i := 10) (N := some 46) #[true, true, true, true, true, true, true, true, true, true, true, false, true, false] rfl rfl (one_of HT_.out kr) (by decide) (fun K hK => ?_)
         refine Kd.R_make_step (Kd.int .i64) _ 3 (by rfl) (N := 46) rfl 22 _ _ rfl ji30 rfl rfl Try.underlying22 (.int .i64 0) 8 info3 rfl (by decide) (by omega) 0 (ok := fun _ => True) (okp := fun _ => True) rfl (fun _ hk => hk) trivial (oD) (Nat.le_trans (Nat.mul_le_mul_right _ (oD : ji30.toNat ≤ 35184372088832)) (by omega)) (Below.refl _ _) (Nat.le_refl _) ?_
         intro v368 w39 ho40 hb hg_ hnew_
         clear hg_ hnew_
         (first | rw [← Ny367.out] at ho40 | (simp only [Int.reduceToNat] at ho40; rw [← Ny367.out] at ho40))
         have HO369 := Aside0.mk (Kd.R_lower (Kd.R_new' ho40 (Kd.R_lt (pR HO366.out))) (below_size pB))
         replace HO366 := Aside0.mk (Kd.R_elder' (pR HO366.out) (Kd.R_base ho40) hb)
         replace BK360 := Aside0.mk (bB BK360.out hb)
         replace BK361 := Aside0.mk (bB BK361.out hb)
         replace BK370 := Aside0.mk (bB BK370.out hb)
         replace HB := Aside0.mk (below_step pB hb)
         clear hb ho40
         obtain ⟨Ao41, co41, eo41⟩ := Kd.R_slice HO369.out
         (first | subst eo41 | (injection eo41 with f1_ f2_ f3_; have f4_ := f1_.symm; have f5_ := f3_.symm; clear f1_ f2_ f3_; subst f4_; subst f5_))
         refine hK.out _ _ ⟨(blk_cell BK360.out 0).trans rfl, (blk_cell BK360.out 1).trans rfl⟩ (fun hHeld => ?_)
         clear hK K
         refine norm_ (a' := ?_) ?_ ?_
         rotate_left
         ·show Act.put _ (some 46) _ = _
          simp only [Act.put, List.setIfInBounds_toArray, List.set_cons_zero, List.set_cons_succ, i64_w, i32_w]
          rfl
         refine pA 11 47 (any_of HT_.out kr) ?_
         exact norm_ (by simp only [putAll, Act.put, List.setIfInBounds_toArray, List.set_cons_zero, List.set_cons_succ]) (hCont (.slice Ao41 y367.length co41, gb370) _ ⟨hHeld, (by (with_reducible repeat (first | apply Kd.R_alloc | apply Kd.R_drewN | apply Kd.R_drew)); exact Kd.R_mono HO366.out (fun _ hk => hk.2)), (by (with_reducible repeat (first | apply Kd.R_alloc | apply Kd.R_drewN | apply Kd.R_drew)); exact Kd.R_mono HO369.out (fun _ hk => hk.2)), (pK BK360.out), (pK BK361.out), (pK BK370.out), GW370.out, GE370.out, NB360_370.out, NB370_360.out, NB361_370.out, NB370_361.out, pB⟩)
       rintro ⟨v368, gb370⟩ w42 ⟨hS_, h0_, h1_, h2_, h3_, h4_, h5_, h6_, h7_, h8_, h9_, h10_, h11_⟩
       have n0_ : Aside0 (Kd.R (Kd.int .i64) 3 w42 w.heap.size (fun k_ => some k_ ≠ (v368 : Value).ownBlock) (.slice Ao37 t364.length co37) t364) := ⟨h0_⟩
       have n1_ : Aside0 (Kd.R (Kd.int .i64) 3 w42 w.heap.size (fun k_ => some k_ ≠ (.slice Ao37 t364.length co37 : Value).ownBlock) v368 y367) := ⟨h1_⟩
       have n2_ : Aside0 (w42.heap[gb360]? = some (.cells #[.int .i64 a0_0, .slice (some ad363) l0_1.length c0_1] 27 (0, 0))) := ⟨h2_⟩
       have n3_ : Aside0 (w42.heap[gb361]? = some (.cells #[.int .i64 0, .int .i64 0, .int .i64 0, .slice none 0 0] 32 (0, 0))) := ⟨h3_⟩
       have n4_ : Aside0 (w42.heap[gb370]? = some (.cells #[.int .i64 0, .int .i64 0, .int .i64 0, .slice none 0 0] 32 (0, 0))) := ⟨h4_⟩
       have n5_ : Aside0 (w.heap.size ≤ gb370) := ⟨h5_⟩
       have n6_ : Aside0 (w.heap.size ≤ gb370) := ⟨h6_⟩
       have n7_ : Aside0 (gb360 ≠ gb370) := ⟨h7_⟩
       have n8_ : Aside0 (gb370 ≠ gb360) := ⟨h8_⟩
       have n9_ : Aside0 (gb361 ≠ gb370) := ⟨h9_⟩
       have n10_ : Aside0 (gb370 ≠ gb361) := ⟨h10_⟩
       have n11_ : Aside0 (Below w.heap.size w w42) := ⟨h11_⟩
       clear HO366
       clear BK360
       clear BK361
       clear HB
       clear h0_ h1_ h2_ h3_ h4_ h5_ h6_ h7_ h8_ h9_ h10_ h11_
       have HO366 := n0_
       have HO369 := n1_
       have BK360 := n2_
       have BK361 := n3_
       have BK370 := n4_
       have GW370 := n5_
       have GE370 := n6_
       have NB360_370 := n7_
       have NB370_360 := n8_
       have NB361_370 := n9_
       have NB370_361 := n10_
       have HB := n11_
       clear n0_ n1_ n2_ n3_ n4_ n5_ n6_ n7_ n8_ n9_ n10_ n11_
       have hHeld : w42.cell? ⟨gb360, 0, none⟩ = some (.int .i64 a0_0) ∧ w42.cell? ⟨gb360, 1, none⟩ = some (.slice (some ad363) l0_1.length c0_1) := hS_
       obtain ⟨Ao43, co43, eo43⟩ := Kd.R_slice HO369.out
       (first | subst eo43 | (injection eo43 with f1_ f2_ f3_; have f4_ := f1_.symm; have f5_ := f3_.symm; clear f1_ f2_ f3_; subst f4_; subst f5_))
       refine norm_ (a' := ?_) ?_ ?_
       rotate_left
       ·simp only [putAll, Act.put, List.setIfInBounds_toArray, List.set_cons_zero, List.set_cons_succ]
        rfl
       refine one_ (i := 13) (N := none) #[true, true, true, true, true, true, true, true, true, true, true, true, true, true] rfl rfl (one_of HT_.out kr) (by decide) (fun K hK => ?_)
       have hs44 : w42.cell? ⟨gb370, 0, none⟩ = some (.int .i64 0) := (blk_cell BK370.out 0).trans rfl
       have hfs44 := blk_frozen BK370.out 0
       have hns44_0 := NB360_370.out
       have hns44_1 := NB361_370.out
       have hms44_0 := NB370_360.out
       have hms44_1 := NB370_361.out
       have hs45 : w42.cell? ⟨gb370, 1, none⟩ = some (.int .i64 0) := (blk_cell BK370.out 1).trans rfl
       have hfs45 := blk_frozen BK370.out 1
       have hns45_0 := NB360_370.out
       have hns45_1 := NB361_370.out
       have hms45_0 := NB370_360.out
       have hms45_1 := NB370_361.out
       have hs46 : w42.cell? ⟨gb370, 2, none⟩ = some (.int .i64 0) := (blk_cell BK370.out 2).trans rfl
       have hfs46 := blk_frozen BK370.out 2
       have hns46_0 := NB360_370.out
       have hns46_1 := NB361_370.out
       have hms46_0 := NB370_360.out
       have hms46_1 := NB370_361.out
       have hs47 : w42.cell? ⟨gb370, 3, none⟩ = some (.slice none 0 0) := (blk_cell BK370.out 3).trans rfl
       have hfs47 := blk_frozen BK370.out 3
       have hns47_0 := NB360_370.out
       have hns47_1 := NB361_370.out
       have hms47_0 := NB370_360.out
       have hms47_1 := NB370_361.out
       refine skip_ (w1 := ?_) (by rfl) rfl ?_ ?_
       rotate_left
       ·go_simp
        rfl
       refine hK.out _ _ ⟨((cell_far (p := ⟨gb370, _, none⟩) NB360_370.out _).trans (((cell_far (p := ⟨gb370, _, none⟩) NB360_370.out _).trans (((cell_far (p := ⟨gb370, _, none⟩) NB360_370.out _).trans (((cell_far (p := ⟨gb370, _, none⟩) NB360_370.out _).trans (hHeld.1)))))))), ((cell_far (p := ⟨gb370, _, none⟩) NB360_370.out _).trans (((cell_far (p := ⟨gb370, _, none⟩) NB360_370.out _).trans (((cell_far (p := ⟨gb370, _, none⟩) NB360_370.out _).trans (((cell_far (p := ⟨gb370, _, none⟩) NB360_370.out _).trans (hHeld.2))))))))⟩ (fun hHeld => ?_)
       clear hK K
       refine done_ (done_of HT_.out kr) ?_
       try go_wp2_with (first | ((with_reducible refine gate_dst (N := 48) rfl ?_); refine Kd.R_lit (Kd.int .i64) _ 3 ?hg (N := 48) ?hd (xs := ([] : List Int)) (inner := []) (ok := fun _ => True) (okp := fun _ => True) ?hr ?hp (fun _ hk => hk) trivial (Below.refl _ _) (Nat.le_refl _) (by simp) ?_; (case hd => rfl); (case hg => rfl); (case hr => first | (go_simp; done) | (go_simp; rfl)); (case hp => exact (Reps.none _ _)); intro v372 w48 ho49 hb hg_ hnew_; clear hg_ hnew_; (first | rw [← Ny371.out] at ho49 | (simp only [Int.reduceToNat] at ho49; rw [← Ny371.out] at ho49)); have HO373 := Aside0.mk (Kd.R_lower (Kd.R_new' (Kd.R_new' ho49 (Kd.R_lt (by (with_reducible repeat (first | apply Kd.R_alloc | apply Kd.R_drewN | apply Kd.R_drew)); exact (Kd.R_mono (Kd.R_far (p := ⟨gb370, 3, none⟩) (Kd.R_far (p := ⟨gb370, 2, none⟩) (Kd.R_far (p := ⟨gb370, 1, none⟩) (Kd.R_far (p := ⟨gb370, 0, none⟩) (Kd.R_types HO366.out BK370.out (by decide)) (fun _ hk => hk.2) (.int .i64 a1)) (fun _ hk => hk.2) (.int .i64 (t364.length : Int))) (fun _ hk => hk.2) (.int .i64 a0_0)) (fun _ hk => hk.2) (.slice Ao43 y367.length co43)) (fun _ h_ => h_.1))))) (Kd.R_lt (by (with_reducible repeat (first | apply Kd.R_alloc | apply Kd.R_drewN | apply Kd.R_drew)); exact (Kd.R_mono (Kd.R_far (p := ⟨gb370, 3, none⟩) (Kd.R_far (p := ⟨gb370, 2, none⟩) (Kd.R_far (p := ⟨gb370, 1, none⟩) (Kd.R_far (p := ⟨gb370, 0, none⟩) (Kd.R_types HO369.out BK370.out (by decide)) (fun _ hk => hk.2) (.int .i64 a1)) (fun _ hk => hk.2) (.int .i64 (t364.length : Int))) (fun _ hk => hk.2) (.int .i64 a0_0)) (fun _ hk => hk.2) (.slice Ao43 y367.length co43)) (fun _ h_ => h_.1))))) (below_size pB)); replace HO366 := Aside0.mk (Kd.R_elder' (by (with_reducible repeat (first | apply Kd.R_alloc | apply Kd.R_drewN | apply Kd.R_drew)); exact (Kd.R_mono (Kd.R_far (p := ⟨gb370, 3, none⟩) (Kd.R_far (p := ⟨gb370, 2, none⟩) (Kd.R_far (p := ⟨gb370, 1, none⟩) (Kd.R_far (p := ⟨gb370, 0, none⟩) (Kd.R_types HO366.out BK370.out (by decide)) (fun _ hk => hk.2) (.int .i64 a1)) (fun _ hk => hk.2) (.int .i64 (t364.length : Int))) (fun _ hk => hk.2) (.int .i64 a0_0)) (fun _ hk => hk.2) (.slice Ao43 y367.length co43)) (fun _ h_ => h_.1))) (Kd.R_base ho49) hb); replace HO369 := Aside0.mk (Kd.R_elder' (by (with_reducible repeat (first | apply Kd.R_alloc | apply Kd.R_drewN | apply Kd.R_drew)); exact (Kd.R_mono (Kd.R_far (p := ⟨gb370, 3, none⟩) (Kd.R_far (p := ⟨gb370, 2, none⟩) (Kd.R_far (p := ⟨gb370, 1, none⟩) (Kd.R_far (p := ⟨gb370, 0, none⟩) (Kd.R_types HO369.out BK370.out (by decide)) (fun _ hk => hk.2) (.int .i64 a1)) (fun _ hk => hk.2) (.int .i64 (t364.length : Int))) (fun _ hk => hk.2) (.int .i64 a0_0)) (fun _ hk => hk.2) (.slice Ao43 y367.length co43)) (fun _ h_ => h_.1))) (Kd.R_base ho49) hb); replace BK360 := Aside0.mk (blk_below (g := gb360) (o := .cells #[.int .i64 a0_0, .slice (some ad363) l0_1.length c0_1] 27 (0, 0)) (by (with_reducible repeat (first | refine blk_drewN ?_ _ | refine blk_drew ?_ | refine blk_alloc ?_ _)); refine blk_far ?_ NB360_370.out _; (with_reducible repeat (first | refine blk_drewN ?_ _ | refine blk_drew ?_ | refine blk_alloc ?_ _)); refine blk_far ?_ NB360_370.out _; (with_reducible repeat (first | refine blk_drewN ?_ _ | refine blk_drew ?_ | refine blk_alloc ?_ _)); refine blk_far ?_ NB360_370.out _; (with_reducible repeat (first | refine blk_drewN ?_ _ | refine blk_drew ?_ | refine blk_alloc ?_ _)); refine blk_far ?_ NB360_370.out _; exact pK BK360.out) hb); replace BK361 := Aside0.mk (blk_below (g := gb361) (o := .cells #[.int .i64 0, .int .i64 0, .int .i64 0, .slice none 0 0] 32 (0, 0)) (by (with_reducible repeat (first | refine blk_drewN ?_ _ | refine blk_drew ?_ | refine blk_alloc ?_ _)); refine blk_far ?_ NB361_370.out _; (with_reducible repeat (first | refine blk_drewN ?_ _ | refine blk_drew ?_ | refine blk_alloc ?_ _)); refine blk_far ?_ NB361_370.out _; (with_reducible repeat (first | refine blk_drewN ?_ _ | refine blk_drew ?_ | refine blk_alloc ?_ _)); refine blk_far ?_ NB361_370.out _; (with_reducible repeat (first | refine blk_drewN ?_ _ | refine blk_drew ?_ | refine blk_alloc ?_ _)); refine blk_far ?_ NB361_370.out _; exact pK BK361.out) hb); replace BK370 := Aside0.mk (blk_below (g := gb370) (o := .cells #[.int .i64 a1, .int .i64 (t364.length : Int), .int .i64 a0_0, .slice Ao43 y367.length co43] 32 (0, 0)) (by (with_reducible repeat (first | refine blk_drewN ?_ _ | refine blk_drew ?_ | refine blk_alloc ?_ _)); refine blk_put (cs := #[.int .i64 a1, .int .i64 (t364.length : Int), .int .i64 a0_0, .slice none 0 0]) ?_ 3 _ rfl; (with_reducible repeat (first | refine blk_drewN ?_ _ | refine blk_drew ?_ | refine blk_alloc ?_ _)); refine blk_put (cs := #[.int .i64 a1, .int .i64 (t364.length : Int), .int .i64 0, .slice none 0 0]) ?_ 2 _ rfl; (with_reducible repeat (first | refine blk_drewN ?_ _ | refine blk_drew ?_ | refine blk_alloc ?_ _)); refine blk_put (cs := #[.int .i64 a1, .int .i64 0, .int .i64 0, .slice none 0 0]) ?_ 1 _ rfl; (with_reducible repeat (first | refine blk_drewN ?_ _ | refine blk_drew ?_ | refine blk_alloc ?_ _)); refine blk_put (cs := #[.int .i64 0, .int .i64 0, .int .i64 0, .slice none 0 0]) ?_ 0 _ rfl; exact pK BK370.out) hb); replace HB := Aside0.mk (below_step pB hb); clear hb ho49))
       go_loopg [9, 51] kj2 (fun kq v9 v51 w' => ∃ (x9_2 : List Int) (x49_2 : List Int) (x51_2 : Int) (x371003_2 : List Int) (u371003 : Value), v51 = .int .i64 x51_2 ∧ Aside0 (impl_FindMatrix.l0 kq (rd l0_1 0) x9_2 x49_2 (t364.length : Int) x51_2 a0_0 l0_1 a1 (t364.length : Int) a0_0 x371003_2 = some (r1, r2, r3, r4, r5)) ∧ Aside0 (kq ≤ kj2) ∧ Aside0 (Kd.R (Kd.int .i64) 3 w' w.heap.size (fun k_ => some k_ ≠ ((.slice Ao37 t364.length co37) : Value).ownBlock ∧ some k_ ≠ (u371003 : Value).ownBlock) v9 x9_2) ∧ Aside0 (Kd.R (Kd.int .i64) 3 w' w.heap.size (fun k_ => some k_ ≠ (v9 : Value).ownBlock ∧ some k_ ≠ (u371003 : Value).ownBlock) (.slice Ao37 t364.length co37) x49_2) ∧ Aside0 (Kd.R (Kd.int .i64) 3 w' w.heap.size (fun k_ => some k_ ≠ (v9 : Value).ownBlock ∧ some k_ ≠ ((.slice Ao37 t364.length co37) : Value).ownBlock) u371003 x371003_2) ∧ Aside0 (w'.heap[gb360]? = some (.cells #[.int .i64 a0_0, (.slice (some ad363) l0_1.length c0_1)] 27 (0, 0))) ∧ Aside0 (w'.heap[gb361]? = some (.cells #[.int .i64 0, .int .i64 0, .int .i64 0, (.slice none 0 0)] 32 (0, 0))) ∧ Aside0 (w'.heap[gb370]? = some (.cells #[.int .i64 a1, .int .i64 (t364.length : Int), .int .i64 a0_0, u371003] 32 (0, 0))) ∧ Aside0 (Below w.heap.size w w'))
       case atStart => exact ⟨(y371), (t364), (0), (y367), (.slice Ao43 y367.length co43), p7, H', ⟨Nat.le_refl _⟩, ⟨by (with_reducible repeat (first | apply Kd.R_alloc | apply Kd.R_drewN | apply Kd.R_drew)); exact Kd.R_mono HO373.out (fun _ hk => ⟨hk.1.2, hk.2⟩)⟩, ⟨by (with_reducible repeat (first | apply Kd.R_alloc | apply Kd.R_drewN | apply Kd.R_drew)); exact Kd.R_mono HO366.out (fun _ hk => ⟨hk.2, hk.1⟩)⟩, ⟨by (with_reducible repeat (first | apply Kd.R_alloc | apply Kd.R_drewN | apply Kd.R_drew)); exact Kd.R_mono HO369.out (fun _ hk => ⟨hk.2, hk.1⟩)⟩, ⟨pK BK360.out⟩, ⟨pK BK361.out⟩, ⟨pK BK370.out⟩, ⟨pB⟩⟩
       case round =>
        clear H'
        try clear c25
        try clear c28
        try clear c28b0
        try clear c28b1
        try clear c31
        try clear c31b0
        try clear c31b1
        try clear c32
        try clear c32b0
        try clear c32b1
        try clear hcz34_0
        try clear hcz34_1
        try clear hfz34_0
        try clear hfz34_1
        try clear hx363_0
        try clear p363
        try clear q363
        obtain ⟨x9_2, x49_2, x51_2, x371003_2, u371003, rfl, HA, HK2, HO_9, HO_49, HO_371003, BK360, BK361, BK370, HB⟩ := hrel
        have hl49_2 := (Kd.R_reads' HO_49.out).1
        rw [hl49_2] at HO_49
        (try simp only [hl49_2])
        (try simp only [hl49_2] at BK360)
        (try simp only [hl49_2] at BK361)
        (try simp only [hl49_2] at BK370)
        (try simp only [hl49_2] at HO_9)
        (try simp only [hl49_2] at HO_371003)
        cases gk with
        | zero => exact absurd HA.out (by simp [impl_FindMatrix.l0])
        | succ k2 =>
         have H := HA.out
         clear HA
         simp only [impl_FindMatrix.l0] at H
         by_cases c50 : x51_2 < (t364.length : Int)
         ·rw [if_pos c50] at H
          have c50b0 : decide (x51_2 < (t364.length : Int)) = true := decide_eq_true c50
          clear c50
          by_cases c51 : 0 ≤ x51_2
          ·rw [if_pos c51] at H
           have c51b0 : decide (0 ≤ x51_2) = true := decide_eq_true c51
           clear c51
           by_cases c52 : x51_2 < (x49_2.length : Int)
           ·rw [if_pos c52] at H
            have c52b0 : decide (x51_2 < (x49_2.length : Int)) = true := decide_eq_true c52
            clear c52
            have H' := Aside0.mk H
            clear H
            have p376 : 0 ≤ (x51_2 : Int) := oD
            have q376 : x51_2 < (x49_2.length : Int) := oD
            obtain ⟨ad376, e376, hx376_0⟩ := Kd.at_int (Kd.R_reads' HO_49.out).2.2 x51_2 p376 q376
            cases e376
            replace p376 := eq_true p376
            replace q376 := eq_true q376
            go_wp2
            go_loopg [9, 12] k2 (fun kq v9 v12 w' => ∃ (x9_3 : List Int) (x12_3 : Int) (x49_3 : List Int) (x371003_3 : List Int) (u371003 : Value), v12 = .int .i64 x12_3 ∧ Aside0 (impl_FindMatrix.l1 kq (rd l0_1 0) x9_3 x51_2 (rd x49_2 x51_2) x12_3 x49_3 (t364.length : Int) x51_2 a0_0 l0_1 a1 (t364.length : Int) a0_0 x371003_3 = some (r1, r2, r3, r4, r5)) ∧ Aside0 (kq ≤ k2) ∧ Aside0 (Kd.R (Kd.int .i64) 3 w' w.heap.size (fun k_ => some k_ ≠ ((.slice (some ad376) x49_2.length co37) : Value).ownBlock ∧ some k_ ≠ (u371003 : Value).ownBlock) v9 x9_3) ∧ Aside0 (Kd.R (Kd.int .i64) 3 w' w.heap.size (fun k_ => some k_ ≠ (v9 : Value).ownBlock ∧ some k_ ≠ (u371003 : Value).ownBlock) (.slice (some ad376) x49_2.length co37) x49_3) ∧ Aside0 (Kd.R (Kd.int .i64) 3 w' w.heap.size (fun k_ => some k_ ≠ (v9 : Value).ownBlock ∧ some k_ ≠ ((.slice (some ad376) x49_2.length co37) : Value).ownBlock) u371003 x371003_3) ∧ Aside0 (w'.heap[gb360]? = some (.cells #[.int .i64 a0_0, (.slice (some ad363) l0_1.length c0_1)] 27 (0, 0))) ∧ Aside0 (w'.heap[gb361]? = some (.cells #[.int .i64 0, .int .i64 0, .int .i64 0, (.slice none 0 0)] 32 (0, 0))) ∧ Aside0 (w'.heap[gb370]? = some (.cells #[.int .i64 a1, .int .i64 (t364.length : Int), .int .i64 a0_0, u371003] 32 (0, 0))) ∧ Aside0 (Below w.heap.size w w'))
            case atStart => exact ⟨(x9_2), (0), (x49_2), (x371003_2), (u371003), p7, H', ⟨Nat.le_refl _⟩, ⟨by (try simp only [hl49_2]); (with_reducible repeat (first | apply Kd.R_alloc | apply Kd.R_drewN | apply Kd.R_drew)); (first | exact HO_9.out | (have h_ := HO_9.out; (try simp only [hl49_2] at h_); exact h_))⟩, ⟨by (try simp only [hl49_2]); (with_reducible repeat (first | apply Kd.R_alloc | apply Kd.R_drewN | apply Kd.R_drew)); (first | exact HO_49.out | (have h_ := HO_49.out; (try simp only [hl49_2] at h_); exact h_))⟩, ⟨by (try simp only [hl49_2]); (with_reducible repeat (first | apply Kd.R_alloc | apply Kd.R_drewN | apply Kd.R_drew)); (first | exact HO_371003.out | (have h_ := HO_371003.out; (try simp only [hl49_2] at h_); exact h_))⟩, ⟨by (try simp only [hl49_2]); (with_reducible repeat (first | refine blk_drewN ?_ _ | refine blk_drew ?_ | refine blk_alloc ?_ _)); (first | exact BK360.out | (have h_ := BK360.out; (try simp only [hl49_2] at h_); exact h_))⟩, ⟨by (try simp only [hl49_2]); (with_reducible repeat (first | refine blk_drewN ?_ _ | refine blk_drew ?_ | refine blk_alloc ?_ _)); (first | exact BK361.out | (have h_ := BK361.out; (try simp only [hl49_2] at h_); exact h_))⟩, ⟨by (try simp only [hl49_2]); (with_reducible repeat (first | refine blk_drewN ?_ _ | refine blk_drew ?_ | refine blk_alloc ?_ _)); (first | exact BK370.out | (have h_ := BK370.out; (try simp only [hl49_2] at h_); exact h_))⟩, ⟨pB⟩⟩
            case round =>
             clear H'
             try clear c25
             try clear c28
             try clear c28b0
             try clear c28b1
             try clear c31
             try clear c31b0
             try clear c31b1
             try clear c32
             try clear c32b0
             try clear c32b1
             try clear c50
             try clear c50b0
             try clear c51
             try clear c51b0
             try clear c52
             try clear c52b0
             try clear hcz34_0
             try clear hcz34_1
             try clear hfz34_0
             try clear hfz34_1
             try clear hx363_0
             try clear hx376_0
             try clear p363
             try clear p376
             try clear q363
             try clear q376
             obtain ⟨x9_3, x12_3, x49_3, x371003_3, u371003, rfl, HA, HK3, HO_9, HO_49, HO_371003, BK360, BK361, BK370, HB⟩ := hrel
             have hl49_3 := (Kd.R_reads' HO_49.out).1
             rw [hl49_3] at HO_49
             (try simp only [hl49_3])
             (try simp only [hl49_3] at BK360)
             (try simp only [hl49_3] at BK361)
             (try simp only [hl49_3] at BK370)
             (try simp only [hl49_3] at HO_9)
             (try simp only [hl49_3] at HO_371003)
             cases gk with
             | zero => exact absurd HA.out (by simp [impl_FindMatrix.l1])
             | succ k3 =>
              have H := HA.out
              clear HA
              simp only [impl_FindMatrix.l1] at H
              by_cases c53 : x12_3 < a0_0
              ·rw [if_pos c53] at H
               have c53b0 : decide (x12_3 < a0_0) = true := decide_eq_true c53
               clear c53
               by_cases c54 : x12_3 = (rd x49_2 x51_2)
               ·rw [if_pos c54] at H
                have c54b0 : (x12_3 == (rd x49_2 x51_2)) = true := beq_iff_eq.mpr c54
                have c54b1 : (x12_3 != (rd x49_2 x51_2)) = false := bne_eq_false_iff_eq.mpr c54
                clear c54
                obtain ⟨ji55, hji55⟩ : ∃ j_ : Int, (wrap64 ((wrap64 (x51_2 * a0_0)) + x12_3)) = j_ := ⟨_, rfl⟩
                replace H : (if 0 ≤ (ji55) then (if (ji55) < (x371003_3.length : Int) then (impl_FindMatrix.l1 k3 (rd l0_1 0) x9_3 x51_2 (rd x49_2 x51_2) (wrap64 (x12_3 + 1)) x49_3 (t364.length : Int) x51_2 a0_0 l0_1 a1 (t364.length : Int) a0_0 (x371003_3.set ((ji55) : Int).toNat 1)) else (none)) else (none)) = some (r1, r2, r3, r4, r5) := by first | (rw [hji55] at H; exact H) | (simp only [hji55] at H ⊢; exact H)
                have hji55w : (IntKind.i64.wrap ((wrap64 (x51_2 * a0_0)) + x12_3)) = ji55 := (i64_w _).trans hji55
                by_cases c56 : 0 ≤ (ji55)
                ·rw [if_pos c56] at H
                 have c56b0 : decide (0 ≤ (ji55)) = true := decide_eq_true c56
                 clear c56
                 by_cases c57 : (ji55) < (x371003_3.length : Int)
                 ·rw [if_pos c57] at H
                  have c57b0 : decide ((ji55) < (x371003_3.length : Int)) = true := decide_eq_true c57
                  clear c57
                  obtain ⟨y377, hy377⟩ : ∃ y_ : List Int, y_ = (x371003_3.set ((ji55) : Int).toNat 1) := ⟨_, rfl⟩
                  replace H : (impl_FindMatrix.l1 k3 (rd l0_1 0) x9_3 x51_2 (rd x49_2 x51_2) (wrap64 (x12_3 + 1)) x49_3 (t364.length : Int) x51_2 a0_0 l0_1 a1 (t364.length : Int) a0_0 y377) = some (r1, r2, r3, r4, r5) := by first | (rw [hy377]; with_reducible exact H) | (have H2_ := (Option.bind_some _ _).symm.trans H; rw [hy377]; with_reducible exact H2_) | (have H2_ := (Option.bind_some _ _).symm.trans H; with_reducible exact H2_) | with_reducible exact H | (rw [hy377]; exact H) | exact H
                  have Ny377 := Aside0.mk hy377
                  clear hy377
                  have H' := Aside0.mk H
                  clear H
                  have hnb59 := NB360_361.out
                  have hnc59 := NB361_360.out
                  have hnb60 := NB360_370.out
                  have hnc60 := NB370_360.out
                  obtain ⟨hcz61_0, hcz61_1, hfz61_0, hfz61_1⟩ := bc2 BK360.out
                  have hnb62 := NB370_361.out
                  have hnc62 := NB361_370.out
                  obtain ⟨hcz63_0, hcz63_1, hcz63_2, hcz63_3, hfz63_0, hfz63_1, hfz63_2, hfz63_3⟩ := bc4 BK370.out
                  have p58 : 0 ≤ ((ji55) : Int) := oD
                  have q58 : ((ji55) : Int) < ((x371003_3.length : Int) : Int) := oD
                  obtain ⟨go58, co58, eo58, gb58, gl58, cl58, HG58⟩ := Kd.R_form HO_371003.out (by omega)
                  (first | cases eo58 | (injection eo58 with ea_ en_ ec_; (first | subst ea_ | (injection ea_ with ea_; subst ea_)); subst ec_; clear en_))
                  have GB58 := Aside0.mk gb58
                  have GG58 := Aside0.mk HG58
                  clear gb58 gl58 HG58
                  obtain ⟨hx58_0, hf58_0⟩ := Kd.R_celln 0 HO_371003.out ((ji55) : Int) p58 q58
                  replace p58 := eq_true p58
                  replace q58 := eq_true q58
                  have HP64 := Kd.R_putg HO_371003.out ((ji55) : Int) 1
                  go_wp2_with (first | ((with_reducible refine gate_store (t := 3) (p := 74) rfl ?_); refine store_event (t := 3) (p := 74) (v := ?vo_w65) (w1 := (wr.setCell ⟨go58, ((ji55) : Int).toNat, none⟩ (.int .i64 1))) ?hg ?ho ?hn ?hr ?_; (case ho => rfl); (case hg => rfl); (case hn => rfl); (case hr => first | (go_simp; done) | (go_simp; rfl)); intro w65 hw; have hg : wr.grownBy w65 (some go58) := (by rw [hw]; exact HP64.2); have hp_ : Kd.R (Kd.int .i64) 3 w65 w.heap.size (fun k_ => some k_ ≠ (u9 : Value).ownBlock ∧ some k_ ≠ (.slice (some ad376) x49_3.length co37 : Value).ownBlock) (.slice (some ⟨go58, 0, none⟩) x371003_3.length co58) y377 := (by rw [hw, Ny377.out]; exact HP64.1); clear HP64; replace HO_9 := Aside0.mk (Kd.R_after (v := (.slice (some ⟨go58, 0, none⟩) x371003_3.length co58)) (v1 := (.slice (some ⟨go58, 0, none⟩) x371003_3.length co58)) (ok := (fun k_ => some k_ ≠ (.slice (some ad376) x49_3.length co37 : Value).ownBlock)) (pR HO_9.out) hg (.inl rfl)); replace HO_49 := Aside0.mk (Kd.R_after (v := (.slice (some ⟨go58, 0, none⟩) x371003_3.length co58)) (v1 := (.slice (some ⟨go58, 0, none⟩) x371003_3.length co58)) (ok := (fun k_ => some k_ ≠ (u9 : Value).ownBlock)) (pR HO_49.out) hg (.inl rfl)); replace BK360 := Aside0.mk (blk_grown (g := gb360) (o := .cells #[.int .i64 a0_0, .slice (some ad363) l0_1.length c0_1] 27 (0, 0)) (pK BK360.out) hg (Kd.R_ne HO_371003.out BK360.out (by decide))); replace BK361 := Aside0.mk (blk_grown (g := gb361) (o := .cells #[.int .i64 0, .int .i64 0, .int .i64 0, .slice none 0 0] 32 (0, 0)) (pK BK361.out) hg (Kd.R_ne HO_371003.out BK361.out (by decide))); replace BK370 := Aside0.mk (blk_grown (g := gb370) (o := .cells #[.int .i64 a1, .int .i64 (t364.length : Int), .int .i64 a0_0, .slice (some ⟨go58, 0, none⟩) x371003_3.length co58] 32 (0, 0)) (pK BK370.out) hg (Kd.R_ne HO_371003.out BK370.out (by decide))); replace HO_371003 := Aside0.mk (hp_); replace HB := Aside0.mk ((by rw [hw]; exact below_set (HB.out) GB58.out : Below w.heap.size w w65)); clear hg hw hp_))
                  (try simp only [← hl49_3])
                  go_roundg k3
                  case measure => have := HJ2.out; have := HK2.out; have := HK3.out; omega
                  case rel => exact ⟨(x9_3), (wrap64 (x12_3 + 1)), (x49_3), (y377), (.slice (some ⟨go58, 0, none⟩) x371003_3.length co58), p7, H', ⟨by have := HJ2.out; have := HK2.out; have := HK3.out; omega⟩, ⟨by (try simp only [hl49_2]); (try simp only [hl49_3]); (with_reducible repeat (first | apply Kd.R_alloc | apply Kd.R_drewN | apply Kd.R_drew)); (first | exact HO_9.out | (have h_ := HO_9.out; (try simp only [hl49_2] at h_); (try simp only [hl49_3] at h_); exact h_))⟩, ⟨by (try simp only [hl49_2]); (try simp only [hl49_3]); (with_reducible repeat (first | apply Kd.R_alloc | apply Kd.R_drewN | apply Kd.R_drew)); (first | exact HO_49.out | (have h_ := HO_49.out; (try simp only [hl49_2] at h_); (try simp only [hl49_3] at h_); exact h_))⟩, ⟨by (try simp only [hl49_2]); (try simp only [hl49_3]); (with_reducible repeat (first | apply Kd.R_alloc | apply Kd.R_drewN | apply Kd.R_drew)); (first | exact HO_371003.out | (have h_ := HO_371003.out; (try simp only [hl49_2] at h_); (try simp only [hl49_3] at h_); exact h_))⟩, ⟨by (try simp only [hl49_2]); (try simp only [hl49_3]); (with_reducible repeat (first | refine blk_drewN ?_ _ | refine blk_drew ?_ | refine blk_alloc ?_ _)); (first | exact BK360.out | (have h_ := BK360.out; (try simp only [hl49_2] at h_); (try simp only [hl49_3] at h_); exact h_))⟩, ⟨by (try simp only [hl49_2]); (try simp only [hl49_3]); (with_reducible repeat (first | refine blk_drewN ?_ _ | refine blk_drew ?_ | refine blk_alloc ?_ _)); (first | exact BK361.out | (have h_ := BK361.out; (try simp only [hl49_2] at h_); (try simp only [hl49_3] at h_); exact h_))⟩, ⟨by (try simp only [hl49_2]); (try simp only [hl49_3]); (with_reducible repeat (first | refine blk_drewN ?_ _ | refine blk_drew ?_ | refine blk_alloc ?_ _)); (first | exact BK370.out | (have h_ := BK370.out; (try simp only [hl49_2] at h_); (try simp only [hl49_3] at h_); exact h_))⟩, ⟨pB⟩⟩
                 ·rw [if_neg c57] at H
                  exact absurd H (by simp)
                ·rw [if_neg c56] at H
                 exact absurd H (by simp)
               ·rw [if_neg c54] at H
                have c54b0 : (x12_3 == (rd x49_2 x51_2)) = false := beq_eq_false_iff_ne.mpr c54
                have c54b1 : (x12_3 != (rd x49_2 x51_2)) = true := bne_iff_ne.mpr c54
                replace H := bS H
                obtain ⟨t378, A66, H⟩ := H
                by_cases c67 : t378 = true
                ·subst c67
                 replace H := iP H
                 have H' := Aside0.mk H
                 clear H
                 have hnb68 := NB360_361.out
                 have hnc68 := NB361_360.out
                 have hnb69 := NB360_370.out
                 have hnc69 := NB370_360.out
                 obtain ⟨hcz70_0, hcz70_1, hfz70_0, hfz70_1⟩ := bc2 BK360.out
                 go_wp2_with (first | ((with_reducible refine gate_callee (f := 32) rfl ?_); refine goesL_ (some 78) rfl rfl Try.func32 kr rfl #[.int .i64 (rd l0_1 0), .int .i64 x12_3] rfl p5 ?_; (with_reducible refine (impl_HasElement.calls (rd l0_1 0) x12_3 true _ A66.out).mono ?_); rintro e w' ⟨rfl, ⟨nd, rfl⟩⟩; refine ⟨_, rfl, ?_⟩))
                 (try simp only [← hl49_3])
                 go_roundg k3
                 case measure => have := HJ2.out; have := HK2.out; have := HK3.out; omega
                 case rel => exact ⟨(x9_3), (wrap64 (x12_3 + 1)), (x49_3), (x371003_3), (u371003), p7, H', ⟨by have := HJ2.out; have := HK2.out; have := HK3.out; omega⟩, ⟨by (try simp only [hl49_2]); (try simp only [hl49_3]); (with_reducible repeat (first | apply Kd.R_alloc | apply Kd.R_drewN | apply Kd.R_drew)); (first | exact HO_9.out | (have h_ := HO_9.out; (try simp only [hl49_2] at h_); (try simp only [hl49_3] at h_); exact h_))⟩, ⟨by (try simp only [hl49_2]); (try simp only [hl49_3]); (with_reducible repeat (first | apply Kd.R_alloc | apply Kd.R_drewN | apply Kd.R_drew)); (first | exact HO_49.out | (have h_ := HO_49.out; (try simp only [hl49_2] at h_); (try simp only [hl49_3] at h_); exact h_))⟩, ⟨by (try simp only [hl49_2]); (try simp only [hl49_3]); (with_reducible repeat (first | apply Kd.R_alloc | apply Kd.R_drewN | apply Kd.R_drew)); (first | exact HO_371003.out | (have h_ := HO_371003.out; (try simp only [hl49_2] at h_); (try simp only [hl49_3] at h_); exact h_))⟩, ⟨by (try simp only [hl49_2]); (try simp only [hl49_3]); (with_reducible repeat (first | refine blk_drewN ?_ _ | refine blk_drew ?_ | refine blk_alloc ?_ _)); (first | exact BK360.out | (have h_ := BK360.out; (try simp only [hl49_2] at h_); (try simp only [hl49_3] at h_); exact h_))⟩, ⟨by (try simp only [hl49_2]); (try simp only [hl49_3]); (with_reducible repeat (first | refine blk_drewN ?_ _ | refine blk_drew ?_ | refine blk_alloc ?_ _)); (first | exact BK361.out | (have h_ := BK361.out; (try simp only [hl49_2] at h_); (try simp only [hl49_3] at h_); exact h_))⟩, ⟨by (try simp only [hl49_2]); (try simp only [hl49_3]); (with_reducible repeat (first | refine blk_drewN ?_ _ | refine blk_drew ?_ | refine blk_alloc ?_ _)); (first | exact BK370.out | (have h_ := BK370.out; (try simp only [hl49_2] at h_); (try simp only [hl49_3] at h_); exact h_))⟩, ⟨pB⟩⟩
                ·replace c67 := Bool.eq_false_iff.mpr c67
                 subst c67
                 replace H := iN H
                 replace H := bS H
                 obtain ⟨t379, A71, H⟩ := H
                 replace H := bS H
                 obtain ⟨t380, A72, H⟩ := H
                 by_cases c73 : t380 = true
                 ·subst c73
                  replace H := iP H
                  by_cases c74 : x9_3.length < 17592186044416
                  ·rw [if_pos c74] at H
                   have LMc74 := Aside0.mk c74
                   clear c74
                   obtain ⟨y381, hy381⟩ : ∃ y_ : List Int, y_ = (x9_3 ++ [wrap64 ((wrap64 (x51_2 * a0_0)) + x12_3)]) := ⟨_, rfl⟩
                   replace H : (impl_FindMatrix.l1 k3 (rd l0_1 0) y381 x51_2 (rd x49_2 x51_2) (wrap64 (x12_3 + 1)) x49_3 (t364.length : Int) x51_2 a0_0 l0_1 a1 (t364.length : Int) a0_0 x371003_3) = some (r1, r2, r3, r4, r5) := by first | (rw [hy381]; with_reducible exact H) | (have H2_ := (Option.bind_some _ _).symm.trans H; rw [hy381]; with_reducible exact H2_) | (have H2_ := (Option.bind_some _ _).symm.trans H; with_reducible exact H2_) | with_reducible exact H | (rw [hy381]; exact H) | exact H
                   have Ny381 := Aside0.mk hy381
                   clear hy381
                   have H' := Aside0.mk H
                   clear H
                   have hnb75 := NB360_361.out
                   have hnc75 := NB361_360.out
                   have hnb76 := NB360_370.out
                   have hnc76 := NB370_360.out
                   obtain ⟨hcz77_0, hcz77_1, hfz77_0, hfz77_1⟩ := bc2 BK360.out
                   go_wp2_with (first | ((with_reducible refine gate_callee (f := 32) rfl ?_); refine goesL_ (some 78) rfl rfl Try.func32 kr rfl #[.int .i64 (rd l0_1 0), .int .i64 x12_3] rfl p5 ?_; (with_reducible refine (impl_HasElement.calls (rd l0_1 0) x12_3 false _ A66.out).mono ?_); rintro e w' ⟨rfl, ⟨nd, rfl⟩⟩; refine ⟨_, rfl, ?_⟩) | (go_at_call 33; (with_reducible refine (impl_circuit.calls k3 a0_0 _ _ l0_1 (rd l0_1 0) x12_3 t379 _ ?side1 ?side2 A71.out).mono ?_); (case side1 => repeat (first | exact (Kd.C_below HR0_1.out pB) | (with_reducible refine Kd.C_alloc ?_ _) | (with_reducible refine Kd.C_drewN ?_ _) | (with_reducible refine Kd.C_drew ?_))); (case side2 => exact HC0_1.out); rintro e w78 ⟨rfl, hb⟩; replace HO_9 := Aside0.mk (Kd.R_below (pR HO_9.out) hb); replace HO_49 := Aside0.mk (Kd.R_below (pR HO_49.out) hb); replace HO_371003 := Aside0.mk (Kd.R_below (pR HO_371003.out) hb); replace BK360 := Aside0.mk (bB BK360.out hb); replace BK361 := Aside0.mk (bB BK361.out hb); replace BK370 := Aside0.mk (bB BK370.out hb); replace HB := Aside0.mk (below_step pB hb); (try clear hb); (try clear hb2); (try clear hk); (try clear hi)) | (go_at_call 32; (with_reducible refine (impl_HasElement.calls t379 (rd x49_2 x51_2) true _ A72.out).mono ?_); rintro e w' ⟨rfl, ⟨nd, rfl⟩⟩; obtain ⟨hcz79_0, hcz79_1, hfz79_0, hfz79_1⟩ := bc2 BK360.out) | ((with_reducible refine gate_builtin (b := .append) (xs := #[.tmp 88, .tmp 95]) rfl ?_); at_builtin; refine Kd.R_append (Kd.int .i64) (w0 := w) w.heap.size rfl (.tmp 88) (.tmp 95) 22 3 (.int .i64 0) 8 rfl Try.underlying22 info3 rfl (by decide) (by omega) u9 x9_3 (wrap64 ((wrap64 (x51_2 * a0_0)) + x12_3)) [.int .i64 (wrap64 ((wrap64 (x51_2 * a0_0)) + x12_3))] (fun k_ => some k_ ≠ (.slice (some ad376) x49_3.length co37 : Value).ownBlock ∧ some k_ ≠ (u371003 : Value).ownBlock) (fun _ => False) rfl rfl ?aP (fun _ hk => hk.elim) ?aF ?aO ?aB ?aS ?aL ?_; (case aP => exact rfl); (case aB => exact pB); (case aF => exact (fun k_ hk => ⟨Kd.fresh' (Kd.R_lt (pR HO_49.out)) k_ hk, Kd.fresh' (Kd.R_lt (pR HO_371003.out)) k_ hk⟩)); (case aO => exact (pR HO_9.out)); (case aS => exact (below_size pB)); (case aL => have := LMc74.out; omega); intro v382 w80 ho hb hg hat; rw [← Ny381.out] at ho; have n0_ := Aside0.mk (Kd.R_after (ok := (fun k_ => some k_ ≠ (u371003 : Value).ownBlock)) (by (with_reducible repeat (first | apply Kd.R_alloc | apply Kd.R_drewN | apply Kd.R_drew)); exact Kd.R_mono HO_49.out (fun _ hk => ⟨hk.2, hk.1⟩)) hg hat); have n1_ := Aside0.mk (Kd.R_after (ok := (fun k_ => some k_ ≠ (.slice (some ad376) x49_3.length co37 : Value).ownBlock)) (by (with_reducible repeat (first | apply Kd.R_alloc | apply Kd.R_drewN | apply Kd.R_drew)); exact Kd.R_mono HO_371003.out (fun _ hk => ⟨hk.2, hk.1⟩)) hg hat); have n2_ := Aside0.mk (blk_grown (g := gb360) (o := .cells #[.int .i64 a0_0, .slice (some ad363) l0_1.length c0_1] 27 (0, 0)) (pK BK360.out) hg (Kd.R_ne HO_9.out BK360.out (by decide))); have n3_ := Aside0.mk (blk_grown (g := gb361) (o := .cells #[.int .i64 0, .int .i64 0, .int .i64 0, .slice none 0 0] 32 (0, 0)) (pK BK361.out) hg (Kd.R_ne HO_9.out BK361.out (by decide))); have n4_ := Aside0.mk (blk_grown (g := gb370) (o := .cells #[.int .i64 a1, .int .i64 (t364.length : Int), .int .i64 a0_0, u371003] 32 (0, 0)) (pK BK370.out) hg (Kd.R_ne HO_9.out BK370.out (by decide))); have n5_ := Aside0.mk (hb); have n6_ := Aside0.mk (ho); clear HO_49; clear HO_371003; clear BK360; clear BK361; clear BK370; clear HB; clear HO_9; have HO_49 := n0_; have HO_371003 := n1_; have BK360 := n2_; have BK361 := n3_; have BK370 := n4_; have HB := n5_; have HO383 := n6_; clear n0_ n1_ n2_ n3_ n4_ n5_ n6_; clear ho hb hg hat))
                   (try simp only [← hl49_3])
                   go_roundg k3
                   case measure => have := HJ2.out; have := HK2.out; have := HK3.out; omega
                   case rel => exact ⟨(y381), (wrap64 (x12_3 + 1)), (x49_3), (x371003_3), (u371003), p7, H', ⟨by have := HJ2.out; have := HK2.out; have := HK3.out; omega⟩, ⟨by (try simp only [hl49_2]); (try simp only [hl49_3]); (with_reducible repeat (first | apply Kd.R_alloc | apply Kd.R_drewN | apply Kd.R_drew)); (first | exact HO383.out | (have h_ := HO383.out; (try simp only [hl49_2] at h_); (try simp only [hl49_3] at h_); exact h_))⟩, ⟨by (try simp only [hl49_2]); (try simp only [hl49_3]); (with_reducible repeat (first | apply Kd.R_alloc | apply Kd.R_drewN | apply Kd.R_drew)); exact Kd.R_mono HO_49.out (fun _ hk => ⟨hk.2, hk.1⟩)⟩, ⟨by (try simp only [hl49_2]); (try simp only [hl49_3]); (with_reducible repeat (first | apply Kd.R_alloc | apply Kd.R_drewN | apply Kd.R_drew)); exact Kd.R_mono HO_371003.out (fun _ hk => ⟨hk.2, hk.1⟩)⟩, ⟨by (try simp only [hl49_2]); (try simp only [hl49_3]); (with_reducible repeat (first | refine blk_drewN ?_ _ | refine blk_drew ?_ | refine blk_alloc ?_ _)); (first | exact BK360.out | (have h_ := BK360.out; (try simp only [hl49_2] at h_); (try simp only [hl49_3] at h_); exact h_))⟩, ⟨by (try simp only [hl49_2]); (try simp only [hl49_3]); (with_reducible repeat (first | refine blk_drewN ?_ _ | refine blk_drew ?_ | refine blk_alloc ?_ _)); (first | exact BK361.out | (have h_ := BK361.out; (try simp only [hl49_2] at h_); (try simp only [hl49_3] at h_); exact h_))⟩, ⟨by (try simp only [hl49_2]); (try simp only [hl49_3]); (with_reducible repeat (first | refine blk_drewN ?_ _ | refine blk_drew ?_ | refine blk_alloc ?_ _)); (first | exact BK370.out | (have h_ := BK370.out; (try simp only [hl49_2] at h_); (try simp only [hl49_3] at h_); exact h_))⟩, ⟨pB⟩⟩
                  ·rw [if_neg c74] at H
                   exact absurd H (by simp)
                 ·replace c73 := Bool.eq_false_iff.mpr c73
                  subst c73
                  replace H := iN H
                  have H' := Aside0.mk H
                  clear H
                  have hnb81 := NB360_361.out
                  have hnc81 := NB361_360.out
                  have hnb82 := NB360_370.out
                  have hnc82 := NB370_360.out
                  obtain ⟨hcz83_0, hcz83_1, hfz83_0, hfz83_1⟩ := bc2 BK360.out
                  go_wp2_with (first | ((with_reducible refine gate_callee (f := 32) rfl ?_); refine goesL_ (some 78) rfl rfl Try.func32 kr rfl #[.int .i64 (rd l0_1 0), .int .i64 x12_3] rfl p5 ?_; (with_reducible refine (impl_HasElement.calls (rd l0_1 0) x12_3 false _ A66.out).mono ?_); rintro e w' ⟨rfl, ⟨nd, rfl⟩⟩; refine ⟨_, rfl, ?_⟩) | (go_at_call 33; (with_reducible refine (impl_circuit.calls k3 a0_0 _ _ l0_1 (rd l0_1 0) x12_3 t379 _ ?side1 ?side2 A71.out).mono ?_); (case side1 => repeat (first | exact (Kd.C_below HR0_1.out pB) | (with_reducible refine Kd.C_alloc ?_ _) | (with_reducible refine Kd.C_drewN ?_ _) | (with_reducible refine Kd.C_drew ?_))); (case side2 => exact HC0_1.out); rintro e w84 ⟨rfl, hb⟩; replace HO_9 := Aside0.mk (Kd.R_below (pR HO_9.out) hb); replace HO_49 := Aside0.mk (Kd.R_below (pR HO_49.out) hb); replace HO_371003 := Aside0.mk (Kd.R_below (pR HO_371003.out) hb); replace BK360 := Aside0.mk (bB BK360.out hb); replace BK361 := Aside0.mk (bB BK361.out hb); replace BK370 := Aside0.mk (bB BK370.out hb); replace HB := Aside0.mk (below_step pB hb); (try clear hb); (try clear hb2); (try clear hk); (try clear hi)) | (go_at_call 32; (with_reducible refine (impl_HasElement.calls t379 (rd x49_2 x51_2) false _ A72.out).mono ?_); rintro e w' ⟨rfl, ⟨nd, rfl⟩⟩))
                  (try simp only [← hl49_3])
                  go_roundg k3
                  case measure => have := HJ2.out; have := HK2.out; have := HK3.out; omega
                  case rel => exact ⟨(x9_3), (wrap64 (x12_3 + 1)), (x49_3), (x371003_3), (u371003), p7, H', ⟨by have := HJ2.out; have := HK2.out; have := HK3.out; omega⟩, ⟨by (try simp only [hl49_2]); (try simp only [hl49_3]); (with_reducible repeat (first | apply Kd.R_alloc | apply Kd.R_drewN | apply Kd.R_drew)); (first | exact HO_9.out | (have h_ := HO_9.out; (try simp only [hl49_2] at h_); (try simp only [hl49_3] at h_); exact h_))⟩, ⟨by (try simp only [hl49_2]); (try simp only [hl49_3]); (with_reducible repeat (first | apply Kd.R_alloc | apply Kd.R_drewN | apply Kd.R_drew)); (first | exact HO_49.out | (have h_ := HO_49.out; (try simp only [hl49_2] at h_); (try simp only [hl49_3] at h_); exact h_))⟩, ⟨by (try simp only [hl49_2]); (try simp only [hl49_3]); (with_reducible repeat (first | apply Kd.R_alloc | apply Kd.R_drewN | apply Kd.R_drew)); (first | exact HO_371003.out | (have h_ := HO_371003.out; (try simp only [hl49_2] at h_); (try simp only [hl49_3] at h_); exact h_))⟩, ⟨by (try simp only [hl49_2]); (try simp only [hl49_3]); (with_reducible repeat (first | refine blk_drewN ?_ _ | refine blk_drew ?_ | refine blk_alloc ?_ _)); (first | exact BK360.out | (have h_ := BK360.out; (try simp only [hl49_2] at h_); (try simp only [hl49_3] at h_); exact h_))⟩, ⟨by (try simp only [hl49_2]); (try simp only [hl49_3]); (with_reducible repeat (first | refine blk_drewN ?_ _ | refine blk_drew ?_ | refine blk_alloc ?_ _)); (first | exact BK361.out | (have h_ := BK361.out; (try simp only [hl49_2] at h_); (try simp only [hl49_3] at h_); exact h_))⟩, ⟨by (try simp only [hl49_2]); (try simp only [hl49_3]); (with_reducible repeat (first | refine blk_drewN ?_ _ | refine blk_drew ?_ | refine blk_alloc ?_ _)); (first | exact BK370.out | (have h_ := BK370.out; (try simp only [hl49_2] at h_); (try simp only [hl49_3] at h_); exact h_))⟩, ⟨pB⟩⟩
              ·rw [if_neg c53] at H
               have c53b0 : decide (x12_3 < a0_0) = false := decide_eq_false c53
               clear c53
               have H' := Aside0.mk H
               clear H
               have hnb85 := NB360_361.out
               have hnc85 := NB361_360.out
               have hnb86 := NB360_370.out
               have hnc86 := NB370_360.out
               obtain ⟨hcz87_0, hcz87_1, hfz87_0, hfz87_1⟩ := bc2 BK360.out
               go_wp2
               (try simp only [← hl49_2, ← hl49_3])
               go_roundg k3
               case measure => have := HJ2.out; have := HK2.out; have := HK3.out; omega
               case rel => exact ⟨(x9_3), (x49_3), (wrap64 (x51_2 + 1)), (x371003_3), (u371003), p7, H', ⟨by have := HJ2.out; have := HK2.out; have := HK3.out; omega⟩, ⟨by (try simp only [hl49_2]); (try simp only [hl49_3]); (with_reducible repeat (first | apply Kd.R_alloc | apply Kd.R_drewN | apply Kd.R_drew)); (first | exact HO_9.out | (have h_ := HO_9.out; (try simp only [hl49_2] at h_); (try simp only [hl49_3] at h_); exact h_))⟩, ⟨by (try simp only [hl49_2]); (try simp only [hl49_3]); (with_reducible repeat (first | apply Kd.R_alloc | apply Kd.R_drewN | apply Kd.R_drew)); (first | exact HO_49.out | (have h_ := HO_49.out; (try simp only [hl49_2] at h_); (try simp only [hl49_3] at h_); exact h_))⟩, ⟨by (try simp only [hl49_2]); (try simp only [hl49_3]); (with_reducible repeat (first | apply Kd.R_alloc | apply Kd.R_drewN | apply Kd.R_drew)); (first | exact HO_371003.out | (have h_ := HO_371003.out; (try simp only [hl49_2] at h_); (try simp only [hl49_3] at h_); exact h_))⟩, ⟨by (try simp only [hl49_2]); (try simp only [hl49_3]); (with_reducible repeat (first | refine blk_drewN ?_ _ | refine blk_drew ?_ | refine blk_alloc ?_ _)); (first | exact BK360.out | (have h_ := BK360.out; (try simp only [hl49_2] at h_); (try simp only [hl49_3] at h_); exact h_))⟩, ⟨by (try simp only [hl49_2]); (try simp only [hl49_3]); (with_reducible repeat (first | refine blk_drewN ?_ _ | refine blk_drew ?_ | refine blk_alloc ?_ _)); (first | exact BK361.out | (have h_ := BK361.out; (try simp only [hl49_2] at h_); (try simp only [hl49_3] at h_); exact h_))⟩, ⟨by (try simp only [hl49_2]); (try simp only [hl49_3]); (with_reducible repeat (first | refine blk_drewN ?_ _ | refine blk_drew ?_ | refine blk_alloc ?_ _)); (first | exact BK370.out | (have h_ := BK370.out; (try simp only [hl49_2] at h_); (try simp only [hl49_3] at h_); exact h_))⟩, ⟨pB⟩⟩
           ·rw [if_neg c52] at H
            exact absurd H (by simp)
          ·rw [if_neg c51] at H
           exact absurd H (by simp)
         ·rw [if_neg c50] at H
          have c50b0 : decide (x51_2 < (t364.length : Int)) = false := decide_eq_false c50
          clear c50
          replace H := Option.bind_eq_some_iff.mp H
          obtain ⟨⟨t374, t375⟩, A880, H⟩ := H
          replace H : (if t374 = true then (some (a1, (t364.length : Int), a0_0, t375, true)) else (some (0, 0, 0, ([] : List Int), false))) = some (r1, r2, r3, r4, r5) := H
          have A88 := Aside0.mk A880
          clear A880
          by_cases c89 : t374 = true
          ·subst c89
           replace H := iP H
           simp only [Option.some.injEq, Prod.mk.injEq] at H
           obtain ⟨rfl, rfl, rfl, rfl, rfl⟩ := H
           have hnb90 := NB360_361.out
           have hnc90 := NB361_360.out
           have hnb91 := NB360_370.out
           have hnc91 := NB370_360.out
           obtain ⟨hcz92_0, hcz92_1, hfz92_0, hfz92_1⟩ := bc2 BK360.out
           have hnb93 := NB370_361.out
           have hnc93 := NB361_370.out
           (try simp only [← hl49_2])
           (try simp only [← hl49_2] at HO_49)
           (try simp only [← hl49_2] at BK370)
           (try simp only [← hl49_2] at HO_9)
           (try simp only [← hl49_2] at HO_371003)
           have HLQ_ := Aside0.mk hl49_2
           clear hl49_2
           obtain ⟨hcz94_0, hcz94_1, hcz94_2, hcz94_3, hfz94_0, hfz94_1, hfz94_2, hfz94_3⟩ := bc4 BK370.out
           obtain ⟨Ao95, co95, eo95⟩ := Kd.R_slice HO_371003.out
           subst eo95
           obtain ⟨Ao96, co96, eo96⟩ := Kd.R_slice HO_9.out
           subst eo96
           go_wp2_with (first | ((with_reducible refine gate_callee (f := 34) rfl ?_); refine goesL_ (some 101) rfl rfl Try.func34 kr rfl #[.agg #[.int .i64 a0_0, .slice (some ad363) l0_1.length c0_1], .agg #[.int .i64 a1, .int .i64 (t364.length : Int), .int .i64 a0_0, .slice Ao95 x371003_2.length co95], .slice Ao96 x9_2.length co96] rfl p5 ?_; (with_reducible refine (impl_fillCells.calls k2 a0_0 _ _ l0_1 a1 (t364.length : Int) a0_0 (fun k_ => some k_ = (.slice Ao95 x371003_2.length co95 : Value).ownBlock) (.slice Ao95 x371003_2.length co95) x371003_2 _ _ x9_2 true t375 w _ ?side1 ?side2 ?side3 ?side4 ?side5 ?side6 A88.out).mono ?_); (case side1 => repeat (first | (with_reducible first | exact HB.out | apply below_alloc | apply pw_below_drewN | apply below_drew1 | refine below_set ?_ GE360.out | refine below_set ?_ GE361.out | refine below_set ?_ GE370.out) | exact HB.out)); (case side2 => exact Kd.C_kept_came (Kd.heap_int .i64) HR0_1.out pB (fun k_ hs_ => (fun e_ => Kd.R_base HO_371003.out k_ e_.symm) hs_)); (case side3 => exact HC0_1.out); (case side4 => exact Kd.R_tight rfl HO_371003.out); (case side5 => exact Kd.C_kept_own (HO_9.out) (fun k_ hk_ hs_ => (hk_.2) hs_)); (case side6 => exact (Kd.R_reads' HO_9.out).2.1); rintro e w97 ⟨rfl, hy0, hb, hkp⟩; refine ⟨_, rfl, ?_⟩; replace HO_9 := Aside0.mk (Kd.R_mono (ok' := fun k_ => some k_ ≠ (.slice Ao37 t364.length co37 : Value).ownBlock ∧ some k_ ≠ (.slice Ao95 x371003_2.length co95 : Value).ownBlock) (Kd.R_keptB (HO_9.out) hkp (fun k_ hk_ hs_ => (hk_.2) hs_)) (fun k_ hk_ => ⟨hk_.1.1, hk_.1.2⟩)); replace HO_49 := Aside0.mk (Kd.R_mono (ok' := fun k_ => some k_ ≠ (.slice Ao96 x9_2.length co96 : Value).ownBlock ∧ some k_ ≠ (.slice Ao95 x371003_2.length co95 : Value).ownBlock) (Kd.R_keptB (HO_49.out) hkp (fun k_ hk_ hs_ => (hk_.2) hs_)) (fun k_ hk_ => ⟨hk_.1.1, hk_.1.2⟩)); replace BK360 := Aside0.mk (blk_kept (pK BK360.out) hkp (fun hs_ => (fun e_ => (Kd.R_ne HO_371003.out BK360.out (by decide)) e_) hs_)); replace BK361 := Aside0.mk (blk_kept (pK BK361.out) hkp (fun hs_ => (fun e_ => (Kd.R_ne HO_371003.out BK361.out (by decide)) e_) hs_)); replace BK370 := Aside0.mk (blk_kept (pK BK370.out) hkp (fun hs_ => (fun e_ => (Kd.R_ne HO_371003.out BK370.out (by decide)) e_) hs_)); replace HO_371003 := Aside0.mk (Kd.R_reok rfl hy0 (fun k_ e_ => HO_371003.out.1 k_ e_)); replace HB := Aside0.mk (hb); (try clear hb); (try clear hkp); (try clear hy0); obtain ⟨hcz98_0, hcz98_1, hcz98_2, hcz98_3, hfz98_0, hfz98_1, hfz98_2, hfz98_3⟩ := bc4 BK370.out; obtain ⟨hcz99_0, hcz99_1, hcz99_2, hcz99_3, hfz99_0, hfz99_1, hfz99_2, hfz99_3⟩ := bc4 BK361.out))
           refine bodyPost_ret (results_ct rfl _ _ gb361 32 #[.int .i64 a1, .int .i64 (t364.length : Int), .int .i64 a0_0, .slice Ao95 x371003_2.length co95] (0, 0) _ rfl (by (with_reducible repeat (first | refine blk_drewN ?_ _ | refine blk_drew ?_ | refine blk_alloc ?_ _)); refine blk_put (cs := #[.int .i64 a1, .int .i64 (t364.length : Int), .int .i64 a0_0, .slice none 0 0]) ?_ 3 _ rfl; (with_reducible repeat (first | refine blk_drewN ?_ _ | refine blk_drew ?_ | refine blk_alloc ?_ _)); refine blk_put (cs := #[.int .i64 a1, .int .i64 (t364.length : Int), .int .i64 0, .slice none 0 0]) ?_ 2 _ rfl; (with_reducible repeat (first | refine blk_drewN ?_ _ | refine blk_drew ?_ | refine blk_alloc ?_ _)); refine blk_put (cs := #[.int .i64 a1, .int .i64 0, .int .i64 0, .slice none 0 0]) ?_ 1 _ rfl; (with_reducible repeat (first | refine blk_drewN ?_ _ | refine blk_drew ?_ | refine blk_alloc ?_ _)); refine blk_put (cs := #[.int .i64 0, .int .i64 0, .int .i64 0, .slice none 0 0]) ?_ 0 _ rfl; exact pK BK361.out) Try.underlying32 rfl kr) rfl ?_
           exact ⟨_, by first | rfl | (simp [errW_none, errW_some] <;> rfl) | (simp only [← hji30]; first | rfl | (simp [errW_none, errW_some] <;> rfl)) | (simp [*, errW_none, errW_some] <;> rfl), by (with_reducible repeat (first | apply Kd.R_alloc | apply Kd.R_drewN | apply Kd.R_drew)); exact Kd.R_mono (Kd.R_far (p := ⟨gb361, 3, none⟩) (Kd.R_far (p := ⟨gb361, 2, none⟩) (Kd.R_far (p := ⟨gb361, 1, none⟩) (Kd.R_far (p := ⟨gb361, 0, none⟩) (Kd.R_types HO_371003.out BK361.out (by decide)) (fun _ hk => hk.2) (.int .i64 a1)) (fun _ hk => hk.2) (.int .i64 (t364.length : Int))) (fun _ hk => hk.2) (.int .i64 a0_0)) (fun _ hk => hk.2) (.slice Ao95 x371003_2.length co95)) (fun _ hk => trivial), pB⟩
          ·replace c89 := Bool.eq_false_iff.mpr c89
           subst c89
           replace H := iN H
           simp only [Option.some.injEq, Prod.mk.injEq] at H
           obtain ⟨rfl, rfl, rfl, rfl, rfl⟩ := H
           have hnb100 := NB360_361.out
           have hnc100 := NB361_360.out
           have hnb101 := NB360_370.out
           have hnc101 := NB370_360.out
           obtain ⟨hcz102_0, hcz102_1, hfz102_0, hfz102_1⟩ := bc2 BK360.out
           have hnb103 := NB370_361.out
           have hnc103 := NB361_370.out
           (try simp only [← hl49_2])
           (try simp only [← hl49_2] at HO_49)
           (try simp only [← hl49_2] at BK370)
           (try simp only [← hl49_2] at HO_9)
           (try simp only [← hl49_2] at HO_371003)
           have HLQ_ := Aside0.mk hl49_2
           clear hl49_2
           obtain ⟨hcz104_0, hcz104_1, hcz104_2, hcz104_3, hfz104_0, hfz104_1, hfz104_2, hfz104_3⟩ := bc4 BK370.out
           obtain ⟨Ao105, co105, eo105⟩ := Kd.R_slice HO_371003.out
           subst eo105
           obtain ⟨Ao106, co106, eo106⟩ := Kd.R_slice HO_9.out
           subst eo106
           go_wp2_with (first | ((with_reducible refine gate_callee (f := 34) rfl ?_); refine goesL_ (some 101) rfl rfl Try.func34 kr rfl #[.agg #[.int .i64 a0_0, .slice (some ad363) l0_1.length c0_1], .agg #[.int .i64 a1, .int .i64 (t364.length : Int), .int .i64 a0_0, .slice Ao105 x371003_2.length co105], .slice Ao106 x9_2.length co106] rfl p5 ?_; (with_reducible refine (impl_fillCells.calls k2 a0_0 _ _ l0_1 a1 (t364.length : Int) a0_0 (fun k_ => some k_ = (.slice Ao105 x371003_2.length co105 : Value).ownBlock) (.slice Ao105 x371003_2.length co105) x371003_2 _ _ x9_2 false t375 w _ ?side1 ?side2 ?side3 ?side4 ?side5 ?side6 A88.out).mono ?_); (case side1 => repeat (first | (with_reducible first | exact HB.out | apply below_alloc | apply pw_below_drewN | apply below_drew1 | refine below_set ?_ GE360.out | refine below_set ?_ GE361.out | refine below_set ?_ GE370.out) | exact HB.out)); (case side2 => exact Kd.C_kept_came (Kd.heap_int .i64) HR0_1.out pB (fun k_ hs_ => (fun e_ => Kd.R_base HO_371003.out k_ e_.symm) hs_)); (case side3 => exact HC0_1.out); (case side4 => exact Kd.R_tight rfl HO_371003.out); (case side5 => exact Kd.C_kept_own (HO_9.out) (fun k_ hk_ hs_ => (hk_.2) hs_)); (case side6 => exact (Kd.R_reads' HO_9.out).2.1); rintro e w107 ⟨rfl, hy0, hb, hkp⟩; refine ⟨_, rfl, ?_⟩; replace HO_9 := Aside0.mk (Kd.R_mono (ok' := fun k_ => some k_ ≠ (.slice Ao37 t364.length co37 : Value).ownBlock ∧ some k_ ≠ (.slice Ao105 x371003_2.length co105 : Value).ownBlock) (Kd.R_keptB (HO_9.out) hkp (fun k_ hk_ hs_ => (hk_.2) hs_)) (fun k_ hk_ => ⟨hk_.1.1, hk_.1.2⟩)); replace HO_49 := Aside0.mk (Kd.R_mono (ok' := fun k_ => some k_ ≠ (.slice Ao106 x9_2.length co106 : Value).ownBlock ∧ some k_ ≠ (.slice Ao105 x371003_2.length co105 : Value).ownBlock) (Kd.R_keptB (HO_49.out) hkp (fun k_ hk_ hs_ => (hk_.2) hs_)) (fun k_ hk_ => ⟨hk_.1.1, hk_.1.2⟩)); replace BK360 := Aside0.mk (blk_kept (pK BK360.out) hkp (fun hs_ => (fun e_ => (Kd.R_ne HO_371003.out BK360.out (by decide)) e_) hs_)); replace BK361 := Aside0.mk (blk_kept (pK BK361.out) hkp (fun hs_ => (fun e_ => (Kd.R_ne HO_371003.out BK361.out (by decide)) e_) hs_)); replace BK370 := Aside0.mk (blk_kept (pK BK370.out) hkp (fun hs_ => (fun e_ => (Kd.R_ne HO_371003.out BK370.out (by decide)) e_) hs_)); replace HO_371003 := Aside0.mk (Kd.R_reok rfl hy0 (fun k_ e_ => HO_371003.out.1 k_ e_)); replace HB := Aside0.mk (hb); (try clear hb); (try clear hkp); (try clear hy0); obtain ⟨hcz108_0, hcz108_1, hcz108_2, hcz108_3, hfz108_0, hfz108_1, hfz108_2, hfz108_3⟩ := bc4 BK361.out))
           refine bodyPost_ret (results_ct rfl _ _ gb361 32 #[.int .i64 0, .int .i64 0, .int .i64 0, .slice none 0 0] (0, 0) _ rfl (by (with_reducible repeat (first | refine blk_drewN ?_ _ | refine blk_drew ?_ | refine blk_alloc ?_ _)); refine blk_put (cs := #[.int .i64 0, .int .i64 0, .int .i64 0, .slice none 0 0]) ?_ 3 _ rfl; (with_reducible repeat (first | refine blk_drewN ?_ _ | refine blk_drew ?_ | refine blk_alloc ?_ _)); refine blk_put (cs := #[.int .i64 0, .int .i64 0, .int .i64 0, .slice none 0 0]) ?_ 2 _ rfl; (with_reducible repeat (first | refine blk_drewN ?_ _ | refine blk_drew ?_ | refine blk_alloc ?_ _)); refine blk_put (cs := #[.int .i64 0, .int .i64 0, .int .i64 0, .slice none 0 0]) ?_ 1 _ rfl; (with_reducible repeat (first | refine blk_drewN ?_ _ | refine blk_drew ?_ | refine blk_alloc ?_ _)); refine blk_put (cs := #[.int .i64 0, .int .i64 0, .int .i64 0, .slice none 0 0]) ?_ 0 _ rfl; exact pK BK361.out) Try.underlying32 rfl kr) rfl ?_
           exact ⟨_, by first | rfl | (simp [errW_none, errW_some] <;> rfl) | (simp only [← hji30]; first | rfl | (simp [errW_none, errW_some] <;> rfl)) | (simp [*, errW_none, errW_some] <;> rfl), p9, pB⟩
      ·rw [if_neg c32] at H
       exact absurd H (by simp)
     ·rw [if_neg c31] at H
      exact absurd H (by simp)
    ·rw [if_neg c28] at H
     exact absurd H (by simp)
end Go.Proofs.Ytbhckhblonkajaa.Q
