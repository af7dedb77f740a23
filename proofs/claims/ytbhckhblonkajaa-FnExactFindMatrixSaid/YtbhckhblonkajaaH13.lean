/- Part of a proof: contracts and lemmas that the row's text uses; joined by a program. -/
import Derived.Test.YtbhckhblonkajaaH04
import Derived.Test.YtbhckhblonkajaaH06
import Derived.Test.YtbhckhblonkajaaH12
set_option linter.unusedVariables false
set_option linter.unusedSimpArgs false
namespace Go.Proofs.Ytbhckhblonkajaa.Q
open Go.RowKit Go.Proofs.YtbhckhblonkajaaW.PrintWords Go.Proofs.YtbhckhblonkajaaW.PrintLast Go.Proofs.YtbhckhblonkajaaW.PrintMore
attribute [local go_sem] max2_int min2_int max_two min_two max_three min_three max_four min_four
mutual
def impl_FindMatrix.j0 : Nat → Int → Bool → Int → List Int → Option (Int × Int × Int × List Int × Bool)
 | 0, _, _, _, _ => none
 | k + 1, x1, x28, xA, xB => if x28 = true then (some (0, 0, 0, ([] : List Int), false)) else (if 0 < (xB.length : Int) then ((impl_ElementsOf.f k (rd xB 0)).bind fun tG => (if 0 ≤ (wrap64 ((tG.length : Int) * xA)) then (if (wrap64 ((tG.length : Int) * xA) : Int).toNat ≤ 35184372088832 then (impl_FindMatrix.l0 k (rd xB 0) (([] : List Int)) tG (tG.length : Int) 0 xA xB x1 (tG.length : Int) xA (List.replicate (wrap64 ((tG.length : Int) * xA) : Int).toNat 0)) else (none)) else (none))) else (none))
def impl_FindMatrix.l0 : Nat → Int → List Int → List Int → Int → Int → Int → List Int → Int → Int → Int → List Int → Option (Int × Int × Int × List Int × Bool)
 | 0, _, _, _, _, _, _, _, _, _, _, _ => none
 | k + 1, x6, x9, x49, x50, x51, xA, xB, xC, xD, xE, xF => if x51 < x50 then (if 0 ≤ x51 then (if x51 < (x49.length : Int) then (impl_FindMatrix.l1 k x6 x9 x51 (rd x49 x51) 0 x49 x50 x51 xA xB xC xD xE xF) else (none)) else (none)) else ((impl_fillCells.f k xA xB xC xD xE xF x9).bind fun btI => (if btI.1 = true then (some (xC, xD, xE, btI.2, true)) else (some (0, 0, 0, ([] : List Int), false))))
def impl_FindMatrix.l1 : Nat → Int → List Int → Int → Int → Int → List Int → Int → Int → Int → List Int → Int → Int → Int → List Int → Option (Int × Int × Int × List Int × Bool)
 | 0, _, _, _, _, _, _, _, _, _, _, _, _, _, _ => none
 | k + 1, x6, x9, x10, x11, x12, x49, x50, x51, xA, xB, xC, xD, xE, xF => if x12 < xA then (if x12 = x11 then (if 0 ≤ (wrap64 ((wrap64 (x10 * xA)) + x12)) then (if (wrap64 ((wrap64 (x10 * xA)) + x12)) < (xF.length : Int) then (impl_FindMatrix.l1 k x6 x9 x10 x11 (wrap64 (x12 + 1)) x49 x50 x51 xA xB xC xD xE (xF.set ((wrap64 ((wrap64 (x10 * xA)) + x12)) : Int).toNat 1)) else (none)) else (none)) else ((impl_HasElement.f x6 x12).bind fun tJ => (if tJ = true then (impl_FindMatrix.l1 k x6 x9 x10 x11 (wrap64 (x12 + 1)) x49 x50 x51 xA xB xC xD xE xF) else ((impl_circuit.f k xA xB x6 x12).bind fun tL => ((impl_HasElement.f tL x11).bind fun tM => (if tM = true then (if x9.length < 17592186044416 then (impl_FindMatrix.l1 k x6 (x9 ++ [wrap64 ((wrap64 (x10 * xA)) + x12)]) x10 x11 (wrap64 (x12 + 1)) x49 x50 x51 xA xB xC xD xE xF) else (none)) else (impl_FindMatrix.l1 k x6 x9 x10 x11 (wrap64 (x12 + 1)) x49 x50 x51 xA xB xC xD xE xF))))))) else (impl_FindMatrix.l0 k x6 x9 x49 x50 (wrap64 (x51 + 1)) xA xB xC xD xE xF)
end
def impl_FindMatrix.f (k : Nat) (a0_0 : Int) (l0_1 : List Int) (a1 : Int) : Option (Int × Int × Int × List Int × Bool) := (impl_IsMatroid.f k a0_0 l0_1).bind fun tA => (if tA = true then (if a0_0 > 6 then (impl_FindMatrix.j0 k a1 true a0_0 l0_1) else (if a1 = 2 then (impl_FindMatrix.j0 k a1 false a0_0 l0_1) else (impl_FindMatrix.j0 k a1 (a1 != 3) a0_0 l0_1))) else (impl_FindMatrix.j0 k a1 true a0_0 l0_1))
def impl_FindMatrix.T5 : Bool × List (List Nat × List Nat) := (true, [([], []), ([], []), ([1], [1]), ([], []), ([3], [3]), ([], []), ([5], [5]), ([], []), ([7], [7]), ([6, 8], [6, 8]), ([9, 9], [9]), ([0, 2, 4, 10], [0, 2, 4, 10]), ([], []), ([12, 11, 0, 1, 2, 3, 4, 5, 6, 7, 8, 9, 10, 11, 12], [11, 12])])
def impl_FindMatrix.B5 : List Nat := [0, 0, 2, 0, 8, 0, 32, 0, 128, 480, 992, 2047, 0, 8191]
theorem impl_FindMatrix.tab5 : rtab .any (opsOf Try.f17 5) = impl_FindMatrix.T5 := by kernel_rfl
theorem impl_FindMatrix.bits5 : waitsOk impl_FindMatrix.T5.2 impl_FindMatrix.B5 = true := by kernel_rfl
set_option maxHeartbeats 8000000 in
set_option maxRecDepth 100000 in
theorem impl_FindMatrix.calls (k : Nat) (a0_0 : Int) (A0_1 : Option Addr) (c0_1 : Nat) (l0_1 : List Int) (a1 : Int) (r1 : Int) (r2 : Int) (r3 : Int) (r4 : List Int) (r5 : Bool) (w : World) (hr0_1 : Kd.C (Kd.int .i64) w A0_1 l0_1.length l0_1) (hc0_1 : l0_1.length ≤ c0_1) (h : impl_FindMatrix.f k a0_0 l0_1 a1 = some (r1, r2, r3, r4, r5)) :
  Calls Try.prog 17 #[.agg #[.int .i64 a0_0, .slice A0_1 l0_1.length c0_1], .int .i64 a1] w fun e w' => ∃ v3_ : Value, e = .returned (.tuple #[.agg #[.int .i64 r1, .int .i64 r2, .int .i64 r3, v3_], .bool r5]) ∧ Kd.R (Kd.int .i64) 3 w' w.heap.size (fun _ => True) v3_ r4 ∧ Below w.heap.size w w' := by
 have hu27 := Try.underlying27
 have hu32 := Try.underlying32
 have HR0_1 := Aside0.mk hr0_1
 have HC0_1 := Aside0.mk hc0_1
 clear hr0_1 hc0_1
 have HB := Aside0.mk (Below.refl w.heap.size w)
 have H : ((impl_IsMatroid.f k a0_0 l0_1).bind fun tZ => (if tZ = true then (if a0_0 > 6 then (impl_FindMatrix.j0 k a1 true a0_0 l0_1) else (if a1 = 2 then (impl_FindMatrix.j0 k a1 false a0_0 l0_1) else (impl_FindMatrix.j0 k a1 (a1 != 3) a0_0 l0_1))) else (impl_FindMatrix.j0 k a1 true a0_0 l0_1))) = some (r1, r2, r3, r4, r5) := h
 clear h
 have HC3 := Aside0.mk H
 clear H
 go_enter Try.func17, Try.ntmps17
 go_upto_region 1 with (first | (refine bE 2 #[.int .i64 a0_0, .slice A0_1 l0_1.length c0_1] 27 ?_; intro gbA hg w4 hbox hb; have BKA := Aside0.mk hbox; have GWA := aZ w hg; have GEA := aZ w hg; replace HB := aH hb; clear hb hbox hg) | (refine bE 4 #[.int .i64 0, .int .i64 0, .int .i64 0, .slice none 0 0] 32 ?_; intro gbD hg w5 hbox hb; have BKD := Aside0.mk hbox; have GWD := aZ w hg; have GED := aZ w hg; replace HB := aH hb; have NBA_D := aL BKA hg; have NBD_A := aG BKA hg; replace BKA := aB BKA hb; clear hb hbox hg))
 (try simp only [Act.put, List.setIfInBounds_toArray, List.set_cons_zero, List.set_cons_succ])
 go_cut [28] (fun v28 wc => ∃ (kq : Nat) (x28_2 : Bool), v28 = .bool x28_2 ∧ Aside0 (impl_FindMatrix.j0 kq a1 x28_2 a0_0 l0_1 = some (r1, r2, r3, r4, r5)) ∧ Aside0 (kq ≤ k) ∧ Aside0 (wc.heap[gbA]? = some (.cells #[.int .i64 a0_0, (.slice A0_1 l0_1.length c0_1)] 27 (0, 0))) ∧ Aside0 (wc.heap[gbD]? = some (.cells #[.int .i64 0, .int .i64 0, .int .i64 0, (.slice none 0 0)] 32 (0, 0))) ∧ Aside0 (Below w.heap.size w wc))
 case first =>
  have H := HC3.out
  clear HC3
  replace H := bS H
  obtain ⟨tZ, A6, H⟩ := H
  by_cases c7 : tZ = true
  ·subst c7
   replace H := iP H
   by_cases c8 : a0_0 > 6
   ·rw [if_pos c8] at H
    have c8b0 : decide (6 < a0_0) = true := decide_eq_true c8
    clear c8
    (first | rw [c8b0] | (simp only [i64_w, i32_w]; rw [c8b0]) | skip)
    have H' := Aside0.mk H
    clear H
    have hnb9 := NBA_D.out
    have hnc9 := NBD_A.out
    obtain ⟨hcz10_0, hcz10_1, hfz10_0, hfz10_1⟩ := bc2 BKA.out
    go_wp2_with (first | ((with_reducible refine gate_callee (f := 30) rfl ?_); refine goesL_ (some 14) rfl rfl Try.func30 kr rfl #[.agg #[.int .i64 a0_0, .slice A0_1 l0_1.length c0_1]] rfl p5 ?_; (with_reducible refine (impl_IsMatroid.calls k a0_0 _ _ l0_1 true _ ?side1 ?side2 A6.out).mono ?_); (case side1 => exact pC (Kd.C_below HR0_1.out HB.out)); (case side2 => exact HC0_1.out); rintro e w11 ⟨rfl, hb⟩; refine ⟨_, rfl, ?_⟩; replace BKA := aB BKA hb; replace BKD := aB BKD hb; replace HB := aH hb; (try clear hb); obtain ⟨hcz12_0, hcz12_1, hfz12_0, hfz12_1⟩ := bc2 BKA.out))
    go_meet
    case rel => exact ⟨_, (true), p7, H', ⟨by first | omega | exact Nat.le_refl _⟩, ⟨pK BKA.out⟩, ⟨pK BKD.out⟩, ⟨pB⟩⟩
   ·rw [if_neg c8] at H
    have c8b0 : decide (6 < a0_0) = false := decide_eq_false c8
    clear c8
    (first | rw [c8b0] | (simp only [i64_w, i32_w]; rw [c8b0]) | skip)
    by_cases c13 : a1 = 2
    ·rw [if_pos c13] at H
     have c13b0 : (a1 == 2) = true := beq_iff_eq.mpr c13
     have c13b1 : (a1 != 2) = false := bne_eq_false_iff_eq.mpr c13
     clear c13
     have H' := Aside0.mk H
     clear H
     have hnb14 := NBA_D.out
     have hnc14 := NBD_A.out
     obtain ⟨hcz15_0, hcz15_1, hfz15_0, hfz15_1⟩ := bc2 BKA.out
     go_wp2_with (first | ((with_reducible refine gate_callee (f := 30) rfl ?_); refine goesL_ (some 14) rfl rfl Try.func30 kr rfl #[.agg #[.int .i64 a0_0, .slice A0_1 l0_1.length c0_1]] rfl p5 ?_; (with_reducible refine (impl_IsMatroid.calls k a0_0 _ _ l0_1 true _ ?side1 ?side2 A6.out).mono ?_); (case side1 => exact pC (Kd.C_below HR0_1.out HB.out)); (case side2 => exact HC0_1.out); rintro e w16 ⟨rfl, hb⟩; refine ⟨_, rfl, ?_⟩; replace BKA := aB BKA hb; replace BKD := aB BKD hb; replace HB := aH hb; (try clear hb); obtain ⟨hcz17_0, hcz17_1, hfz17_0, hfz17_1⟩ := bc2 BKA.out))
     go_meet
     case rel => exact ⟨_, (false), p7, H', ⟨by first | omega | exact Nat.le_refl _⟩, ⟨pK BKA.out⟩, ⟨pK BKD.out⟩, ⟨pB⟩⟩
    ·rw [if_neg c13] at H
     have c13b0 : (a1 == 2) = false := beq_eq_false_iff_ne.mpr c13
     have c13b1 : (a1 != 2) = true := bne_iff_ne.mpr c13
     have H' := Aside0.mk H
     clear H
     have hnb18 := NBA_D.out
     have hnc18 := NBD_A.out
     obtain ⟨hcz19_0, hcz19_1, hfz19_0, hfz19_1⟩ := bc2 BKA.out
     go_wp2_with (first | ((with_reducible refine gate_callee (f := 30) rfl ?_); refine goesL_ (some 14) rfl rfl Try.func30 kr rfl #[.agg #[.int .i64 a0_0, .slice A0_1 l0_1.length c0_1]] rfl p5 ?_; (with_reducible refine (impl_IsMatroid.calls k a0_0 _ _ l0_1 true _ ?side1 ?side2 A6.out).mono ?_); (case side1 => exact pC (Kd.C_below HR0_1.out HB.out)); (case side2 => exact HC0_1.out); rintro e w20 ⟨rfl, hb⟩; refine ⟨_, rfl, ?_⟩; replace BKA := aB BKA hb; replace BKD := aB BKD hb; replace HB := aH hb; (try clear hb); obtain ⟨hcz21_0, hcz21_1, hfz21_0, hfz21_1⟩ := bc2 BKA.out))
     go_meet
     case rel => exact ⟨_, ((a1 != 3)), p7, H', ⟨by first | omega | exact Nat.le_refl _⟩, ⟨pK BKA.out⟩, ⟨pK BKD.out⟩, ⟨pB⟩⟩
  ·replace c7 := Bool.eq_false_iff.mpr c7
   subst c7
   replace H := iN H
   have H' := Aside0.mk H
   clear H
   have hnb22 := NBA_D.out
   have hnc22 := NBD_A.out
   obtain ⟨hcz23_0, hcz23_1, hfz23_0, hfz23_1⟩ := bc2 BKA.out
   go_wp2_with (first | ((with_reducible refine gate_callee (f := 30) rfl ?_); refine goesL_ (some 14) rfl rfl Try.func30 kr rfl #[.agg #[.int .i64 a0_0, .slice A0_1 l0_1.length c0_1]] rfl p5 ?_; (with_reducible refine (impl_IsMatroid.calls k a0_0 _ _ l0_1 false _ ?side1 ?side2 A6.out).mono ?_); (case side1 => exact pC (Kd.C_below HR0_1.out HB.out)); (case side2 => exact HC0_1.out); rintro e w24 ⟨rfl, hb⟩; refine ⟨_, rfl, ?_⟩; replace BKA := aB BKA hb; replace BKD := aB BKD hb; replace HB := aH hb; (try clear hb)))
   go_meet
   case rel => exact ⟨_, (true), p7, H', ⟨by first | omega | exact Nat.le_refl _⟩, ⟨pK BKA.out⟩, ⟨pK BKD.out⟩, ⟨pB⟩⟩
 case rest =>
  clear HC3
  obtain ⟨kq, x28_2, rfl, HA, HJ2, BKA, BKD, HB⟩ := hcut
  cases kq with
  | zero => exact absurd HA.out (by simp [impl_FindMatrix.j0])
  | succ kj2 =>
   have H := HA.out
   clear HA
   simp only [impl_FindMatrix.j0] at H
   by_cases c25 : x28_2 = true
   ·subst c25
    replace H := iP H
    simp only [Option.some.injEq, Prod.mk.injEq] at H
    obtain ⟨rfl, rfl, rfl, rfl, rfl⟩ := H
    have hnb26 := NBD_A.out
    have hnc26 := NBA_D.out
    obtain ⟨hcz27_0, hcz27_1, hcz27_2, hcz27_3, hfz27_0, hfz27_1, hfz27_2, hfz27_3⟩ := bc4 BKD.out
    go_wp2
    refine bodyPost_ret (results_ct rfl _ _ gbD 32 #[.int .i64 0, .int .i64 0, .int .i64 0, .slice none 0 0] (0, 0) _ rfl (by (with_reducible repeat (first | refine blk_drewN ?_ _ | refine blk_drew ?_ | refine blk_alloc ?_ _)); refine blk_put (cs := #[.int .i64 0, .int .i64 0, .int .i64 0, .slice none 0 0]) ?_ 3 _ rfl; (with_reducible repeat (first | refine blk_drewN ?_ _ | refine blk_drew ?_ | refine blk_alloc ?_ _)); refine blk_put (cs := #[.int .i64 0, .int .i64 0, .int .i64 0, .slice none 0 0]) ?_ 2 _ rfl; (with_reducible repeat (first | refine blk_drewN ?_ _ | refine blk_drew ?_ | refine blk_alloc ?_ _)); refine blk_put (cs := #[.int .i64 0, .int .i64 0, .int .i64 0, .slice none 0 0]) ?_ 1 _ rfl; (with_reducible repeat (first | refine blk_drewN ?_ _ | refine blk_drew ?_ | refine blk_alloc ?_ _)); refine blk_put (cs := #[.int .i64 0, .int .i64 0, .int .i64 0, .slice none 0 0]) ?_ 0 _ rfl; exact pK BKD.out) Try.underlying32 rfl kr) rfl ?_
    exact ⟨_, p8, p9, pB⟩
   ·replace c25 := Bool.eq_false_iff.mpr c25
    subst c25
    replace H := iN H
    by_cases c28 : 0 < (l0_1.length : Int)
    ·rw [if_pos c28] at H
     have c28b0 : decide (0 < (l0_1.length : Int)) = true := decide_eq_true c28
     have c28b1 : decide (0 < l0_1.length) = true := decide_eq_true (by omega)
     clear c28
     replace H := bS H
     obtain ⟨tF, A29, H⟩ := H
     obtain ⟨ji30, hji30⟩ : ∃ j_ : Int, (wrap64 ((tF.length : Int) * a0_0)) = j_ := ⟨_, rfl⟩
     replace H : (if 0 ≤ (ji30) then (if (ji30 : Int).toNat ≤ 35184372088832 then (impl_FindMatrix.l0 kj2 (rd l0_1 0) (([] : List Int)) tF (tF.length : Int) 0 a0_0 l0_1 a1 (tF.length : Int) a0_0 (List.replicate (ji30 : Int).toNat 0)) else (none)) else (none)) = some (r1, r2, r3, r4, r5) := jR hji30 H
     (try rw [hji30] at A29)
     have hji30w : (IntKind.i64.wrap ((tF.length : Int) * a0_0)) = ji30 := (i64_w _).trans hji30
     by_cases c31 : 0 ≤ (ji30)
     ·rw [if_pos c31] at H
      have c31b0 := eq_true c31
      have c31b1 : decide (0 ≤ (ji30)) = true := decide_eq_true c31
      clear c31
      by_cases c32 : (ji30 : Int).toNat ≤ 35184372088832
      ·rw [if_pos c32] at H
       have c32b0 := eq_true c32
       have c32b1 : decide ((ji30 : Int).toNat ≤ 35184372088832) = true := decide_eq_true c32
       clear c32
       obtain ⟨yI, hyI⟩ : ∃ y_ : List Int, y_ = (List.replicate (ji30 : Int).toNat 0) := ⟨_, rfl⟩
       replace H : (impl_FindMatrix.l0 kj2 (rd l0_1 0) (([] : List Int)) tF (tF.length : Int) 0 a0_0 l0_1 a1 (tF.length : Int) a0_0 yI) = some (r1, r2, r3, r4, r5) := yR hyI H
       have NyI := Aside0.mk hyI
       clear hyI
       obtain ⟨yP, hyP⟩ : ∃ y_ : List Int, y_ = (([] : List Int)) := ⟨_, rfl⟩
       replace H : (impl_FindMatrix.l0 kj2 (rd l0_1 0) yP tF (tF.length : Int) 0 a0_0 l0_1 a1 (tF.length : Int) a0_0 yI) = some (r1, r2, r3, r4, r5) := yR hyP H
       have NyP := Aside0.mk hyP
       clear hyP
       have H' := Aside0.mk H
       clear H
       have hnb33 := NBA_D.out
       have hnc33 := NBD_A.out
       obtain ⟨hcz34_0, hcz34_1, hfz34_0, hfz34_1⟩ := bc2 BKA.out
       have pG : 0 ≤ (0 : Int) := (by omega)
       have qG : 0 < (l0_1.length : Int) := oD
       obtain ⟨adG, eG, hxG_0⟩ := Kd.at_int HR0_1.out 0 pG qG
       cases eG
       have qiG : (0 < l0_1.length) = True := eq_true (by omega)
       (try rw [show ((0 : Int)).toNat = 0 from rfl] at hxG_0)
       (try rw [Addr.add_zero'] at hxG_0)
       replace hxG_0 := (HB.out.cell (World.block_lt_of_cell? w _ hxG_0)).trans hxG_0
       replace pG := eq_true pG
       replace qG := eq_true qG
       try go_wp2_with (first | ((with_reducible refine gate_callee (f := 31) rfl ?_); refine goesL_ (some 35) rfl rfl Try.func31 kr rfl #[.int .i64 (rd l0_1 0)] rfl p5 ?_; (with_reducible refine (impl_ElementsOf.calls kj2 (rd l0_1 0) tF _ A29.out).mono ?_); rintro e w35 ⟨vAl, rfl, ho0, hb⟩; refine ⟨_, rfl, ?_⟩; have HOJ := Aside0.mk (Kd.R_lower ho0 (below_size pB)); replace BKA := aB BKA hb; replace BKD := aB BKD hb; replace HB := aH hb; (try clear hb); (try clear ho0)))
       replace HOJ := Aside0.mk (Kd.R_drew HOJ.out)
       replace BKA := Aside0.mk (blk_drew BKA.out)
       replace BKD := Aside0.mk (blk_drew BKD.out)
       replace HB := Aside0.mk (below_drew1 HB.out)
       obtain ⟨Ao37, co37, eo37⟩ := Kd.R_slice HOJ.out
       (first | subst eo37 | (injection eo37 with f1_ f2_ f3_; have f4_ := f1_.symm; have f5_ := f3_.symm; clear f1_ f2_ f3_; subst f4_; subst f5_))
       refine start_ (n := 14) (S := fun w' => w'.cell? ⟨gbA, 0, none⟩ = some (.int .i64 a0_0) ∧ w'.cell? ⟨gbA, 1, none⟩ = some (.slice (some adG) l0_1.length c0_1)) (ds := []) #[false, false, false, false, false, false, false, false, false, false, false, false, false, false] kr rfl rfl ⟨(blk_cell BKA.out 0).trans rfl, (blk_cell BKA.out 1).trans rfl⟩ (fun hHeld => ?_); refine with_tabW impl_FindMatrix.tab5 impl_FindMatrix.bits5 (fun HT_ HW_ => ?_)
       generalize w35.drew = w36 at HOJ BKA BKD HB hHeld ⊢
       refine pA 0 36 (any_of HT_.out kr) ?_
       refine pA 1 37 (any_of HT_.out kr) ?_
       refine pA 2 38 (any_of HT_.out kr) ?_
       refine pA 3 39 (any_of HT_.out kr) ?_
       refine pA 5 41 (any_of HT_.out kr) ?_
       refine pA 6 42 (any_of HT_.out kr) ?_
       refine pA 7 43 (any_of HT_.out kr) ?_
       refine tA2 4 40 (take_ofW HT_.out HW_.out kr) hHeld ?_
       refine tA2 8 44 (take_ofW HT_.out HW_.out kr) hHeld ?_
       refine pA 9 45 (any_of HT_.out kr) ?_
       refine join_ (σ := Value × Nat) 1 #[true, true, true, true, true, true, true, true, true, true, true, true, true, false] (fun s_ => [(46, s_.1), (8, .pointer (some ⟨s_.2, 0, none⟩)), (47, .agg #[.int .i64 a1, .int .i64 (tF.length : Int), .int .i64 a0_0, s_.1])]) (fun s_ w' => (w'.cell? ⟨gbA, 0, none⟩ = some (.int .i64 a0_0) ∧ w'.cell? ⟨gbA, 1, none⟩ = some (.slice (some adG) l0_1.length c0_1)) ∧ (Kd.R (Kd.int .i64) 3 w' w.heap.size (fun k_ => some k_ ≠ (s_.1 : Value).ownBlock) (.slice Ao37 tF.length co37) tF) ∧ (Kd.R (Kd.int .i64) 3 w' w.heap.size (fun k_ => some k_ ≠ (.slice Ao37 tF.length co37 : Value).ownBlock) s_.1 yI) ∧ (w'.heap[gbA]? = some (.cells #[.int .i64 a0_0, .slice (some adG) l0_1.length c0_1] 27 (0, 0))) ∧ (w'.heap[gbD]? = some (.cells #[.int .i64 0, .int .i64 0, .int .i64 0, .slice none 0 0] 32 (0, 0))) ∧ (w'.heap[s_.2]? = some (.cells #[.int .i64 0, .int .i64 0, .int .i64 0, .slice none 0 0] 32 (0, 0))) ∧ (w.heap.size ≤ s_.2) ∧ (w.heap.size ≤ s_.2) ∧ (gbA ≠ s_.2) ∧ (s_.2 ≠ gbA) ∧ (gbD ≠ s_.2) ∧ (s_.2 ≠ gbD) ∧ (Below w.heap.size w w')) ?_ ?_
       rotate_left
       ·intro hCont
        refine two_ (i := 10) (j := 12) (Ni := some 46) (Nj := some 8) #[true, true, true, true, true, true, true, true, true, true, true, false, false, false] #[true, true, true, true, true, true, true, true, true, true, false, false, true, false] rfl rfl rfl rfl (two_of HT_.out kr) (by decide) (by decide) (fun K hK => ?_) (fun K hK => ?_)
        ·skip
         refine Kd.R_make_step (Kd.int .i64) _ 3 (by rfl) (N := 46) rfl 22 _ _ rfl ji30 rfl rfl Try.underlying22 (.int .i64 0) 8 info3 rfl (by decide) (by omega) 0 (ok := fun _ => True) (okp := fun _ => True) rfl (fun _ hk => hk) trivial (oD) (Nat.le_trans (Nat.mul_le_mul_right _ (oD : ji30.toNat ≤ 35184372088832)) (by omega)) (Below.refl _ _) (Nat.le_refl _) ?_
         intro vX w38 ho39 hb hg_ hnew_
         clear hg_ hnew_
         (first | rw [← NyI.out] at ho39 | (simp only [Int.reduceToNat] at ho39; rw [← NyI.out] at ho39))
         have HOM := Aside0.mk (Kd.R_lower (Kd.R_new' ho39 (Kd.R_lt (pR HOJ.out))) (below_size pB))
         replace HOJ := Aside0.mk (Kd.R_elder' (pR HOJ.out) (Kd.R_base ho39) hb)
         replace BKA := aB BKA hb
         replace BKD := aB BKD hb
         replace HB := aH hb
         clear hb ho39
         obtain ⟨Ao40, co40, eo40⟩ := Kd.R_slice HOM.out
         (first | subst eo40 | (injection eo40 with f1_ f2_ f3_; have f4_ := f1_.symm; have f5_ := f3_.symm; clear f1_ f2_ f3_; subst f4_; subst f5_))
         refine hK.out _ _ ⟨(blk_cell BKA.out 0).trans rfl, (blk_cell BKA.out 1).trans rfl⟩ (fun hHeld => ?_)
         clear hK K
         refine norm_ (a' := ?_) ?_ ?_
         rotate_left
         ·show Act.put _ (some 46) _ = _
          simp only [Act.put, List.setIfInBounds_toArray, List.set_cons_zero, List.set_cons_succ, i64_w, i32_w]
          rfl
         refine pA 11 47 (any_of HT_.out kr) ?_
         refine one_ (i := 12) (N := some 8) #[true, true, true, true, true, true, true, true, true, true, true, true, true, false] rfl rfl (one_of HT_.out kr) (by decide) (fun K hK => ?_)
         refine box_step ?hg (N := 8) ?hd (cs := #[.int .i64 0, .int .i64 0, .int .i64 0, .slice none 0 0]) (t := 32) ?hr ?_; (case hd => rfl); (case hg => rfl); (case hr => first | (go_simp; done) | (go_simp; rfl))
         intro gbB hg w41 hbox hb
         replace HOJ := aR HOJ hb
         replace HOM := aR HOM hb
         have BKB := Aside0.mk hbox
         have GWB := aZ w hg
         have GEB := aZ w hg
         replace HB := aH hb
         have NBA_B := aL BKA hg
         have NBB_A := aG BKA hg
         replace BKA := aB BKA hb
         have NBD_B := aL BKD hg
         have NBB_D := aG BKD hg
         replace BKD := aB BKD hb
         clear hb hbox hg
         refine hK.out _ _ ⟨(blk_cell BKA.out 0).trans rfl, (blk_cell BKA.out 1).trans rfl⟩ (fun hHeld => ?_)
         clear hK K
         refine norm_ (a' := ?_) ?_ ?_
         rotate_left
         ·show Act.put _ (some 8) _ = _
          simp only [Act.put, List.setIfInBounds_toArray, List.set_cons_zero, List.set_cons_succ, i64_w, i32_w]
          rfl
         exact norm_ (by simp only [putAll, Act.put, List.setIfInBounds_toArray, List.set_cons_zero, List.set_cons_succ]) (hCont (.slice Ao40 yI.length co40, gbB) _ ⟨hHeld, (by (with_reducible repeat (first | apply Kd.R_alloc | apply Kd.R_drewN | apply Kd.R_drew)); exact Kd.R_mono HOJ.out (fun _ hk => hk.2)), (by (with_reducible repeat (first | apply Kd.R_alloc | apply Kd.R_drewN | apply Kd.R_drew)); exact Kd.R_mono HOM.out (fun _ hk => hk.2)), (pK BKA.out), (pK BKD.out), (pK BKB.out), GWB.out, GEB.out, NBA_B.out, NBB_A.out, NBD_B.out, NBB_D.out, pB⟩)
        ·skip
         refine box_step ?hg (N := 8) ?hd (cs := #[.int .i64 0, .int .i64 0, .int .i64 0, .slice none 0 0]) (t := 32) ?hr ?_; (case hd => rfl); (case hg => rfl); (case hr => first | (go_simp; done) | (go_simp; rfl))
         intro gbB hg w38 hbox hb
         replace HOJ := aR HOJ hb
         have BKB := Aside0.mk hbox
         have GWB := aZ w hg
         have GEB := aZ w hg
         replace HB := aH hb
         have NBA_B := aL BKA hg
         have NBB_A := aG BKA hg
         replace BKA := aB BKA hb
         have NBD_B := aL BKD hg
         have NBB_D := aG BKD hg
         replace BKD := aB BKD hb
         clear hb hbox hg
         refine hK.out _ _ ⟨(blk_cell BKA.out 0).trans rfl, (blk_cell BKA.out 1).trans rfl⟩ (fun hHeld => ?_)
         clear hK K
         refine norm_ (a' := ?_) ?_ ?_
         rotate_left
         ·show Act.put _ (some 8) _ = _
          simp only [Act.put, List.setIfInBounds_toArray, List.set_cons_zero, List.set_cons_succ, i64_w, i32_w]
          rfl
         refine one_ (i := 10) (N := some 46) #[true, true, true, true, true, true, true, true, true, true, true, false, true, false] rfl rfl (one_of HT_.out kr) (by decide) (fun K hK => ?_)
         refine Kd.R_make_step (Kd.int .i64) _ 3 (by rfl) (N := 46) rfl 22 _ _ rfl ji30 rfl rfl Try.underlying22 (.int .i64 0) 8 info3 rfl (by decide) (by omega) 0 (ok := fun _ => True) (okp := fun _ => True) rfl (fun _ hk => hk) trivial (oD) (Nat.le_trans (Nat.mul_le_mul_right _ (oD : ji30.toNat ≤ 35184372088832)) (by omega)) (Below.refl _ _) (Nat.le_refl _) ?_
         intro vX w39 ho40 hb hg_ hnew_
         clear hg_ hnew_
         (first | rw [← NyI.out] at ho40 | (simp only [Int.reduceToNat] at ho40; rw [← NyI.out] at ho40))
         have HOM := Aside0.mk (Kd.R_lower (Kd.R_new' ho40 (Kd.R_lt (pR HOJ.out))) (below_size pB))
         replace HOJ := Aside0.mk (Kd.R_elder' (pR HOJ.out) (Kd.R_base ho40) hb)
         replace BKA := aB BKA hb
         replace BKD := aB BKD hb
         replace BKB := aB BKB hb
         replace HB := aH hb
         clear hb ho40
         obtain ⟨Ao41, co41, eo41⟩ := Kd.R_slice HOM.out
         (first | subst eo41 | (injection eo41 with f1_ f2_ f3_; have f4_ := f1_.symm; have f5_ := f3_.symm; clear f1_ f2_ f3_; subst f4_; subst f5_))
         refine hK.out _ _ ⟨(blk_cell BKA.out 0).trans rfl, (blk_cell BKA.out 1).trans rfl⟩ (fun hHeld => ?_)
         clear hK K
         refine norm_ (a' := ?_) ?_ ?_
         rotate_left
         ·show Act.put _ (some 46) _ = _
          simp only [Act.put, List.setIfInBounds_toArray, List.set_cons_zero, List.set_cons_succ, i64_w, i32_w]
          rfl
         refine pA 11 47 (any_of HT_.out kr) ?_
         exact norm_ (by simp only [putAll, Act.put, List.setIfInBounds_toArray, List.set_cons_zero, List.set_cons_succ]) (hCont (.slice Ao41 yI.length co41, gbB) _ ⟨hHeld, (by (with_reducible repeat (first | apply Kd.R_alloc | apply Kd.R_drewN | apply Kd.R_drew)); exact Kd.R_mono HOJ.out (fun _ hk => hk.2)), (by (with_reducible repeat (first | apply Kd.R_alloc | apply Kd.R_drewN | apply Kd.R_drew)); exact Kd.R_mono HOM.out (fun _ hk => hk.2)), (pK BKA.out), (pK BKD.out), (pK BKB.out), GWB.out, GEB.out, NBA_B.out, NBB_A.out, NBD_B.out, NBB_D.out, pB⟩)
       rintro ⟨vX, gbB⟩ w42 ⟨hS_, h0_, h1_, h2_, h3_, h4_, h5_, h6_, h7_, h8_, h9_, h10_, h11_⟩
       have n0_ : Aside0 (Kd.R (Kd.int .i64) 3 w42 w.heap.size (fun k_ => some k_ ≠ (vX : Value).ownBlock) (.slice Ao37 tF.length co37) tF) := ⟨h0_⟩
       have n1_ : Aside0 (Kd.R (Kd.int .i64) 3 w42 w.heap.size (fun k_ => some k_ ≠ (.slice Ao37 tF.length co37 : Value).ownBlock) vX yI) := ⟨h1_⟩
       have n2_ : Aside0 (w42.heap[gbA]? = some (.cells #[.int .i64 a0_0, .slice (some adG) l0_1.length c0_1] 27 (0, 0))) := ⟨h2_⟩
       have n3_ : Aside0 (w42.heap[gbD]? = some (.cells #[.int .i64 0, .int .i64 0, .int .i64 0, .slice none 0 0] 32 (0, 0))) := ⟨h3_⟩
       have n4_ : Aside0 (w42.heap[gbB]? = some (.cells #[.int .i64 0, .int .i64 0, .int .i64 0, .slice none 0 0] 32 (0, 0))) := ⟨h4_⟩
       have n5_ : Aside0 (w.heap.size ≤ gbB) := ⟨h5_⟩
       have n6_ : Aside0 (w.heap.size ≤ gbB) := ⟨h6_⟩
       have n7_ : Aside0 (gbA ≠ gbB) := ⟨h7_⟩
       have n8_ : Aside0 (gbB ≠ gbA) := ⟨h8_⟩
       have n9_ : Aside0 (gbD ≠ gbB) := ⟨h9_⟩
       have n10_ : Aside0 (gbB ≠ gbD) := ⟨h10_⟩
       have n11_ : Aside0 (Below w.heap.size w w42) := ⟨h11_⟩
       clear HOJ
       clear BKA
       clear BKD
       clear HB
       clear h0_ h1_ h2_ h3_ h4_ h5_ h6_ h7_ h8_ h9_ h10_ h11_
       have HOJ := n0_
       have HOM := n1_
       have BKA := n2_
       have BKD := n3_
       have BKB := n4_
       have GWB := n5_
       have GEB := n6_
       have NBA_B := n7_
       have NBB_A := n8_
       have NBD_B := n9_
       have NBB_D := n10_
       have HB := n11_
       clear n0_ n1_ n2_ n3_ n4_ n5_ n6_ n7_ n8_ n9_ n10_ n11_
       have hHeld : w42.cell? ⟨gbA, 0, none⟩ = some (.int .i64 a0_0) ∧ w42.cell? ⟨gbA, 1, none⟩ = some (.slice (some adG) l0_1.length c0_1) := hS_
       obtain ⟨Ao43, co43, eo43⟩ := Kd.R_slice HOM.out
       (first | subst eo43 | (injection eo43 with f1_ f2_ f3_; have f4_ := f1_.symm; have f5_ := f3_.symm; clear f1_ f2_ f3_; subst f4_; subst f5_))
       refine norm_ (a' := ?_) ?_ ?_
       rotate_left
       ·simp only [putAll, Act.put, List.setIfInBounds_toArray, List.set_cons_zero, List.set_cons_succ]
        rfl
       refine one_ (i := 13) (N := none) #[true, true, true, true, true, true, true, true, true, true, true, true, true, true] rfl rfl (one_of HT_.out kr) (by decide) (fun K hK => ?_)
       have hs44 : w42.cell? ⟨gbB, 0, none⟩ = some (.int .i64 0) := (blk_cell BKB.out 0).trans rfl
       have hfs44 := blk_frozen BKB.out 0
       have hns44_0 := NBA_B.out
       have hns44_1 := NBD_B.out
       have hms44_0 := NBB_A.out
       have hms44_1 := NBB_D.out
       have hs45 : w42.cell? ⟨gbB, 1, none⟩ = some (.int .i64 0) := (blk_cell BKB.out 1).trans rfl
       have hfs45 := blk_frozen BKB.out 1
       have hns45_0 := NBA_B.out
       have hns45_1 := NBD_B.out
       have hms45_0 := NBB_A.out
       have hms45_1 := NBB_D.out
       have hs46 : w42.cell? ⟨gbB, 2, none⟩ = some (.int .i64 0) := (blk_cell BKB.out 2).trans rfl
       have hfs46 := blk_frozen BKB.out 2
       have hns46_0 := NBA_B.out
       have hns46_1 := NBD_B.out
       have hms46_0 := NBB_A.out
       have hms46_1 := NBB_D.out
       have hs47 : w42.cell? ⟨gbB, 3, none⟩ = some (.slice none 0 0) := (blk_cell BKB.out 3).trans rfl
       have hfs47 := blk_frozen BKB.out 3
       have hns47_0 := NBA_B.out
       have hns47_1 := NBD_B.out
       have hms47_0 := NBB_A.out
       have hms47_1 := NBB_D.out
       refine skip_ (w1 := ?_) (by rfl) rfl ?_ ?_
       rotate_left
       ·go_simp
        rfl
       refine hK.out _ _ ⟨((cell_far (p := ⟨gbB, _, none⟩) NBA_B.out _).trans (((cell_far (p := ⟨gbB, _, none⟩) NBA_B.out _).trans (((cell_far (p := ⟨gbB, _, none⟩) NBA_B.out _).trans (((cell_far (p := ⟨gbB, _, none⟩) NBA_B.out _).trans (hHeld.1)))))))), ((cell_far (p := ⟨gbB, _, none⟩) NBA_B.out _).trans (((cell_far (p := ⟨gbB, _, none⟩) NBA_B.out _).trans (((cell_far (p := ⟨gbB, _, none⟩) NBA_B.out _).trans (((cell_far (p := ⟨gbB, _, none⟩) NBA_B.out _).trans (hHeld.2))))))))⟩ (fun hHeld => ?_)
       clear hK K
       refine done_ (done_of HT_.out kr) ?_
       try go_wp2_with (first | ((with_reducible refine gate_dst (N := 48) rfl ?_); refine Kd.R_lit (Kd.int .i64) _ 3 ?hg (N := 48) ?hd (xs := ([] : List Int)) (inner := []) (ok := fun _ => True) (okp := fun _ => True) ?hr ?hp (fun _ hk => hk) trivial (Below.refl _ _) (Nat.le_refl _) (by simp) ?_; (case hd => rfl); (case hg => rfl); (case hr => first | (go_simp; done) | (go_simp; rfl)); (case hp => exact (Reps.none _ _)); intro vAm w48 ho49 hb hg_ hnew_; clear hg_ hnew_; (first | rw [← NyP.out] at ho49 | (simp only [Int.reduceToNat] at ho49; rw [← NyP.out] at ho49)); have HOAf := Aside0.mk (Kd.R_lower (Kd.R_new' (Kd.R_new' ho49 (Kd.R_lt (by (with_reducible repeat (first | apply Kd.R_alloc | apply Kd.R_drewN | apply Kd.R_drew)); exact (Kd.R_mono (Kd.R_far (p := ⟨gbB, 3, none⟩) (Kd.R_far (p := ⟨gbB, 2, none⟩) (Kd.R_far (p := ⟨gbB, 1, none⟩) (Kd.R_far (p := ⟨gbB, 0, none⟩) (Kd.R_types HOJ.out BKB.out (by decide)) (fun _ hk => hk.2) (.int .i64 a1)) (fun _ hk => hk.2) (.int .i64 (tF.length : Int))) (fun _ hk => hk.2) (.int .i64 a0_0)) (fun _ hk => hk.2) (.slice Ao43 yI.length co43)) (fun _ h_ => h_.1))))) (Kd.R_lt (by (with_reducible repeat (first | apply Kd.R_alloc | apply Kd.R_drewN | apply Kd.R_drew)); exact (Kd.R_mono (Kd.R_far (p := ⟨gbB, 3, none⟩) (Kd.R_far (p := ⟨gbB, 2, none⟩) (Kd.R_far (p := ⟨gbB, 1, none⟩) (Kd.R_far (p := ⟨gbB, 0, none⟩) (Kd.R_types HOM.out BKB.out (by decide)) (fun _ hk => hk.2) (.int .i64 a1)) (fun _ hk => hk.2) (.int .i64 (tF.length : Int))) (fun _ hk => hk.2) (.int .i64 a0_0)) (fun _ hk => hk.2) (.slice Ao43 yI.length co43)) (fun _ h_ => h_.1))))) (below_size pB)); replace HOJ := Aside0.mk (Kd.R_elder' (by (with_reducible repeat (first | apply Kd.R_alloc | apply Kd.R_drewN | apply Kd.R_drew)); exact (Kd.R_mono (Kd.R_far (p := ⟨gbB, 3, none⟩) (Kd.R_far (p := ⟨gbB, 2, none⟩) (Kd.R_far (p := ⟨gbB, 1, none⟩) (Kd.R_far (p := ⟨gbB, 0, none⟩) (Kd.R_types HOJ.out BKB.out (by decide)) (fun _ hk => hk.2) (.int .i64 a1)) (fun _ hk => hk.2) (.int .i64 (tF.length : Int))) (fun _ hk => hk.2) (.int .i64 a0_0)) (fun _ hk => hk.2) (.slice Ao43 yI.length co43)) (fun _ h_ => h_.1))) (Kd.R_base ho49) hb); replace HOM := Aside0.mk (Kd.R_elder' (by (with_reducible repeat (first | apply Kd.R_alloc | apply Kd.R_drewN | apply Kd.R_drew)); exact (Kd.R_mono (Kd.R_far (p := ⟨gbB, 3, none⟩) (Kd.R_far (p := ⟨gbB, 2, none⟩) (Kd.R_far (p := ⟨gbB, 1, none⟩) (Kd.R_far (p := ⟨gbB, 0, none⟩) (Kd.R_types HOM.out BKB.out (by decide)) (fun _ hk => hk.2) (.int .i64 a1)) (fun _ hk => hk.2) (.int .i64 (tF.length : Int))) (fun _ hk => hk.2) (.int .i64 a0_0)) (fun _ hk => hk.2) (.slice Ao43 yI.length co43)) (fun _ h_ => h_.1))) (Kd.R_base ho49) hb); replace BKA := bF BKA.out hb; replace BKD := bF BKD.out hb; replace BKB := Aside0.mk (blk_below (g := gbB) (o := .cells #[.int .i64 a1, .int .i64 (tF.length : Int), .int .i64 a0_0, .slice Ao43 yI.length co43] 32 (0, 0)) (by (with_reducible repeat (first | refine blk_drewN ?_ _ | refine blk_drew ?_ | refine blk_alloc ?_ _)); refine blk_put (cs := #[.int .i64 a1, .int .i64 (tF.length : Int), .int .i64 a0_0, .slice none 0 0]) ?_ 3 _ rfl; (with_reducible repeat (first | refine blk_drewN ?_ _ | refine blk_drew ?_ | refine blk_alloc ?_ _)); refine blk_put (cs := #[.int .i64 a1, .int .i64 (tF.length : Int), .int .i64 0, .slice none 0 0]) ?_ 2 _ rfl; (with_reducible repeat (first | refine blk_drewN ?_ _ | refine blk_drew ?_ | refine blk_alloc ?_ _)); refine blk_put (cs := #[.int .i64 a1, .int .i64 0, .int .i64 0, .slice none 0 0]) ?_ 1 _ rfl; (with_reducible repeat (first | refine blk_drewN ?_ _ | refine blk_drew ?_ | refine blk_alloc ?_ _)); refine blk_put (cs := #[.int .i64 0, .int .i64 0, .int .i64 0, .slice none 0 0]) ?_ 0 _ rfl; exact pK BKB.out) hb); replace HB := aH hb; clear hb ho49))
       go_loopg [9, 51] kj2 (fun kq v9 v51 w' => ∃ (x9_2 : List Int) (x49_2 : List Int) (x51_2 : Int) (xE_2 : List Int) (uE : Value), v51 = .int .i64 x51_2 ∧ Aside0 (impl_FindMatrix.l0 kq (rd l0_1 0) x9_2 x49_2 (tF.length : Int) x51_2 a0_0 l0_1 a1 (tF.length : Int) a0_0 xE_2 = some (r1, r2, r3, r4, r5)) ∧ Aside0 (kq ≤ kj2) ∧ Aside0 (Kd.R (Kd.int .i64) 3 w' w.heap.size (fun k_ => some k_ ≠ ((.slice Ao37 tF.length co37) : Value).ownBlock ∧ some k_ ≠ (uE : Value).ownBlock) v9 x9_2) ∧ Aside0 (Kd.R (Kd.int .i64) 3 w' w.heap.size (fun k_ => some k_ ≠ (v9 : Value).ownBlock ∧ some k_ ≠ (uE : Value).ownBlock) (.slice Ao37 tF.length co37) x49_2) ∧ Aside0 (Kd.R (Kd.int .i64) 3 w' w.heap.size (fun k_ => some k_ ≠ (v9 : Value).ownBlock ∧ some k_ ≠ ((.slice Ao37 tF.length co37) : Value).ownBlock) uE xE_2) ∧ Aside0 (w'.heap[gbA]? = some (.cells #[.int .i64 a0_0, (.slice (some adG) l0_1.length c0_1)] 27 (0, 0))) ∧ Aside0 (w'.heap[gbD]? = some (.cells #[.int .i64 0, .int .i64 0, .int .i64 0, (.slice none 0 0)] 32 (0, 0))) ∧ Aside0 (w'.heap[gbB]? = some (.cells #[.int .i64 a1, .int .i64 (tF.length : Int), .int .i64 a0_0, uE] 32 (0, 0))) ∧ Aside0 (Below w.heap.size w w'))
       case atStart => exact ⟨(yP), (tF), (0), (yI), (.slice Ao43 yI.length co43), p7, H', ⟨Nat.le_refl _⟩, ⟨by (with_reducible repeat (first | apply Kd.R_alloc | apply Kd.R_drewN | apply Kd.R_drew)); exact Kd.R_mono HOAf.out (fun _ hk => ⟨hk.1.2, hk.2⟩)⟩, ⟨by (with_reducible repeat (first | apply Kd.R_alloc | apply Kd.R_drewN | apply Kd.R_drew)); exact Kd.R_mono HOJ.out (fun _ hk => ⟨hk.2, hk.1⟩)⟩, ⟨by (with_reducible repeat (first | apply Kd.R_alloc | apply Kd.R_drewN | apply Kd.R_drew)); exact Kd.R_mono HOM.out (fun _ hk => ⟨hk.2, hk.1⟩)⟩, ⟨pK BKA.out⟩, ⟨pK BKD.out⟩, ⟨pK BKB.out⟩, ⟨pB⟩⟩
       case round =>
        clear H'
        try clear c25
        try clear c28
        try clear c28b0
        try clear c28b1
        try clear c31
        try clear c31b0
        try clear c31b1
        try clear c32
        try clear c32b0
        try clear c32b1
        try clear hcz34_0
        try clear hcz34_1
        try clear hfz34_0
        try clear hfz34_1
        try clear hxG_0
        try clear pG
        try clear qG
        obtain ⟨x9_2, x49_2, x51_2, xE_2, uE, rfl, HA, HK2, HO_9, HO_49, HO_E, BKA, BKD, BKB, HB⟩ := hrel
        have hl49_2 := (Kd.R_reads' HO_49.out).1
        rw [hl49_2] at HO_49
        (try simp only [hl49_2])
        (try simp only [hl49_2] at BKA)
        (try simp only [hl49_2] at BKD)
        (try simp only [hl49_2] at BKB)
        (try simp only [hl49_2] at HO_9)
        (try simp only [hl49_2] at HO_E)
        cases gk with
        | zero => exact absurd HA.out (by simp [impl_FindMatrix.l0])
        | succ k2 =>
         have H := HA.out
         clear HA
         simp only [impl_FindMatrix.l0] at H
         by_cases c50 : x51_2 < (tF.length : Int)
         ·rw [if_pos c50] at H
          have c50b0 : decide (x51_2 < (tF.length : Int)) = true := decide_eq_true c50
          clear c50
          by_cases c51 : 0 ≤ x51_2
          ·rw [if_pos c51] at H
           have c51b0 : decide (0 ≤ x51_2) = true := decide_eq_true c51
           clear c51
           by_cases c52 : x51_2 < (x49_2.length : Int)
           ·rw [if_pos c52] at H
            have c52b0 : decide (x51_2 < (x49_2.length : Int)) = true := decide_eq_true c52
            clear c52
            have H' := Aside0.mk H
            clear H
            have pL : 0 ≤ (x51_2 : Int) := oD
            have qL : x51_2 < (x49_2.length : Int) := oD
            obtain ⟨adL, eL, hxL_0⟩ := Kd.at_int (Kd.R_reads' HO_49.out).2.2 x51_2 pL qL
            cases eL
            replace pL := eq_true pL
            replace qL := eq_true qL
            go_wp2
            go_loopg [9, 12] k2 (fun kq v9 v12 w' => ∃ (x9_3 : List Int) (x12_3 : Int) (x49_3 : List Int) (xE_3 : List Int) (uE : Value), v12 = .int .i64 x12_3 ∧ Aside0 (impl_FindMatrix.l1 kq (rd l0_1 0) x9_3 x51_2 (rd x49_2 x51_2) x12_3 x49_3 (tF.length : Int) x51_2 a0_0 l0_1 a1 (tF.length : Int) a0_0 xE_3 = some (r1, r2, r3, r4, r5)) ∧ Aside0 (kq ≤ k2) ∧ Aside0 (Kd.R (Kd.int .i64) 3 w' w.heap.size (fun k_ => some k_ ≠ ((.slice (some adL) x49_2.length co37) : Value).ownBlock ∧ some k_ ≠ (uE : Value).ownBlock) v9 x9_3) ∧ Aside0 (Kd.R (Kd.int .i64) 3 w' w.heap.size (fun k_ => some k_ ≠ (v9 : Value).ownBlock ∧ some k_ ≠ (uE : Value).ownBlock) (.slice (some adL) x49_2.length co37) x49_3) ∧ Aside0 (Kd.R (Kd.int .i64) 3 w' w.heap.size (fun k_ => some k_ ≠ (v9 : Value).ownBlock ∧ some k_ ≠ ((.slice (some adL) x49_2.length co37) : Value).ownBlock) uE xE_3) ∧ Aside0 (w'.heap[gbA]? = some (.cells #[.int .i64 a0_0, (.slice (some adG) l0_1.length c0_1)] 27 (0, 0))) ∧ Aside0 (w'.heap[gbD]? = some (.cells #[.int .i64 0, .int .i64 0, .int .i64 0, (.slice none 0 0)] 32 (0, 0))) ∧ Aside0 (w'.heap[gbB]? = some (.cells #[.int .i64 a1, .int .i64 (tF.length : Int), .int .i64 a0_0, uE] 32 (0, 0))) ∧ Aside0 (Below w.heap.size w w'))
            case atStart => exact ⟨(x9_2), (0), (x49_2), (xE_2), (uE), p7, H', ⟨Nat.le_refl _⟩, ⟨by (try simp only [hl49_2]); (with_reducible repeat (first | apply Kd.R_alloc | apply Kd.R_drewN | apply Kd.R_drew)); (first | exact HO_9.out | (have h_ := HO_9.out; (try simp only [hl49_2] at h_); exact h_))⟩, ⟨by (try simp only [hl49_2]); (with_reducible repeat (first | apply Kd.R_alloc | apply Kd.R_drewN | apply Kd.R_drew)); (first | exact HO_49.out | (have h_ := HO_49.out; (try simp only [hl49_2] at h_); exact h_))⟩, ⟨by (try simp only [hl49_2]); (with_reducible repeat (first | apply Kd.R_alloc | apply Kd.R_drewN | apply Kd.R_drew)); (first | exact HO_E.out | (have h_ := HO_E.out; (try simp only [hl49_2] at h_); exact h_))⟩, ⟨by (try simp only [hl49_2]); (with_reducible repeat (first | refine blk_drewN ?_ _ | refine blk_drew ?_ | refine blk_alloc ?_ _)); (first | exact BKA.out | (have h_ := BKA.out; (try simp only [hl49_2] at h_); exact h_))⟩, ⟨by (try simp only [hl49_2]); (with_reducible repeat (first | refine blk_drewN ?_ _ | refine blk_drew ?_ | refine blk_alloc ?_ _)); (first | exact BKD.out | (have h_ := BKD.out; (try simp only [hl49_2] at h_); exact h_))⟩, ⟨by (try simp only [hl49_2]); (with_reducible repeat (first | refine blk_drewN ?_ _ | refine blk_drew ?_ | refine blk_alloc ?_ _)); (first | exact BKB.out | (have h_ := BKB.out; (try simp only [hl49_2] at h_); exact h_))⟩, ⟨pB⟩⟩
            case round =>
             clear H'
             try clear c25
             try clear c28
             try clear c28b0
             try clear c28b1
             try clear c31
             try clear c31b0
             try clear c31b1
             try clear c32
             try clear c32b0
             try clear c32b1
             try clear c50
             try clear c50b0
             try clear c51
             try clear c51b0
             try clear c52
             try clear c52b0
             try clear hcz34_0
             try clear hcz34_1
             try clear hfz34_0
             try clear hfz34_1
             try clear hxG_0
             try clear hxL_0
             try clear pG
             try clear pL
             try clear qG
             try clear qL
             obtain ⟨x9_3, x12_3, x49_3, xE_3, uE, rfl, HA, HK3, HO_9, HO_49, HO_E, BKA, BKD, BKB, HB⟩ := hrel
             have hl49_3 := (Kd.R_reads' HO_49.out).1
             rw [hl49_3] at HO_49
             (try simp only [hl49_3])
             (try simp only [hl49_3] at BKA)
             (try simp only [hl49_3] at BKD)
             (try simp only [hl49_3] at BKB)
             (try simp only [hl49_3] at HO_9)
             (try simp only [hl49_3] at HO_E)
             cases gk with
             | zero => exact absurd HA.out (by simp [impl_FindMatrix.l1])
             | succ k3 =>
              have H := HA.out
              clear HA
              simp only [impl_FindMatrix.l1] at H
              by_cases c53 : x12_3 < a0_0
              ·rw [if_pos c53] at H
               have c53b0 : decide (x12_3 < a0_0) = true := decide_eq_true c53
               clear c53
               by_cases c54 : x12_3 = (rd x49_2 x51_2)
               ·rw [if_pos c54] at H
                have c54b0 : (x12_3 == (rd x49_2 x51_2)) = true := beq_iff_eq.mpr c54
                have c54b1 : (x12_3 != (rd x49_2 x51_2)) = false := bne_eq_false_iff_eq.mpr c54
                clear c54
                obtain ⟨ji55, hji55⟩ : ∃ j_ : Int, (wrap64 ((wrap64 (x51_2 * a0_0)) + x12_3)) = j_ := ⟨_, rfl⟩
                replace H : (if 0 ≤ (ji55) then (if (ji55) < (xE_3.length : Int) then (impl_FindMatrix.l1 k3 (rd l0_1 0) x9_3 x51_2 (rd x49_2 x51_2) (wrap64 (x12_3 + 1)) x49_3 (tF.length : Int) x51_2 a0_0 l0_1 a1 (tF.length : Int) a0_0 (xE_3.set ((ji55) : Int).toNat 1)) else (none)) else (none)) = some (r1, r2, r3, r4, r5) := jR hji55 H
                have hji55w : (IntKind.i64.wrap ((wrap64 (x51_2 * a0_0)) + x12_3)) = ji55 := (i64_w _).trans hji55
                by_cases c56 : 0 ≤ (ji55)
                ·rw [if_pos c56] at H
                 have c56b0 : decide (0 ≤ (ji55)) = true := decide_eq_true c56
                 clear c56
                 by_cases c57 : (ji55) < (xE_3.length : Int)
                 ·rw [if_pos c57] at H
                  have c57b0 : decide ((ji55) < (xE_3.length : Int)) = true := decide_eq_true c57
                  clear c57
                  obtain ⟨yQ, hyQ⟩ : ∃ y_ : List Int, y_ = (xE_3.set ((ji55) : Int).toNat 1) := ⟨_, rfl⟩
                  replace H : (impl_FindMatrix.l1 k3 (rd l0_1 0) x9_3 x51_2 (rd x49_2 x51_2) (wrap64 (x12_3 + 1)) x49_3 (tF.length : Int) x51_2 a0_0 l0_1 a1 (tF.length : Int) a0_0 yQ) = some (r1, r2, r3, r4, r5) := yR hyQ H
                  have NyQ := Aside0.mk hyQ
                  clear hyQ
                  have H' := Aside0.mk H
                  clear H
                  have hnb59 := NBA_D.out
                  have hnc59 := NBD_A.out
                  have hnb60 := NBA_B.out
                  have hnc60 := NBB_A.out
                  obtain ⟨hcz61_0, hcz61_1, hfz61_0, hfz61_1⟩ := bc2 BKA.out
                  have hnb62 := NBB_D.out
                  have hnc62 := NBD_B.out
                  obtain ⟨hcz63_0, hcz63_1, hcz63_2, hcz63_3, hfz63_0, hfz63_1, hfz63_2, hfz63_3⟩ := bc4 BKB.out
                  have p58 : 0 ≤ ((ji55) : Int) := oD
                  have q58 : ((ji55) : Int) < ((xE_3.length : Int) : Int) := oD
                  obtain ⟨go58, co58, eo58, gb58, gl58, cl58, HG58⟩ := Kd.R_form HO_E.out (by omega)
                  (first | cases eo58 | (injection eo58 with ea_ en_ ec_; (first | subst ea_ | (injection ea_ with ea_; subst ea_)); subst ec_; clear en_))
                  have GB58 := Aside0.mk gb58
                  have GG58 := Aside0.mk HG58
                  clear gb58 gl58 HG58
                  obtain ⟨hx58_0, hf58_0⟩ := Kd.R_celln 0 HO_E.out ((ji55) : Int) p58 q58
                  replace p58 := eq_true p58
                  replace q58 := eq_true q58
                  have HP64 := Kd.R_putg HO_E.out ((ji55) : Int) 1
                  go_wp2_with (first | ((with_reducible refine gate_store (t := 3) (p := 74) rfl ?_); refine store_event (t := 3) (p := 74) (v := ?vo_w65) (w1 := (wr.setCell ⟨go58, ((ji55) : Int).toNat, none⟩ (.int .i64 1))) ?hg ?ho ?hn ?hr ?_; (case ho => rfl); (case hg => rfl); (case hn => rfl); (case hr => first | (go_simp; done) | (go_simp; rfl)); intro w65 hw; have hg : wr.grownBy w65 (some go58) := (by rw [hw]; exact HP64.2); have hp_ : Kd.R (Kd.int .i64) 3 w65 w.heap.size (fun k_ => some k_ ≠ (u9 : Value).ownBlock ∧ some k_ ≠ (.slice (some adL) x49_3.length co37 : Value).ownBlock) (.slice (some ⟨go58, 0, none⟩) xE_3.length co58) yQ := (by rw [hw, NyQ.out]; exact HP64.1); clear HP64; replace HO_9 := Aside0.mk (Kd.R_after (v := (.slice (some ⟨go58, 0, none⟩) xE_3.length co58)) (v1 := (.slice (some ⟨go58, 0, none⟩) xE_3.length co58)) (ok := (fun k_ => some k_ ≠ (.slice (some adL) x49_3.length co37 : Value).ownBlock)) (pR HO_9.out) hg (.inl rfl)); replace HO_49 := Aside0.mk (Kd.R_after (v := (.slice (some ⟨go58, 0, none⟩) xE_3.length co58)) (v1 := (.slice (some ⟨go58, 0, none⟩) xE_3.length co58)) (ok := (fun k_ => some k_ ≠ (u9 : Value).ownBlock)) (pR HO_49.out) hg (.inl rfl)); replace BKA := Aside0.mk (blk_grown (g := gbA) (o := .cells #[.int .i64 a0_0, .slice (some adG) l0_1.length c0_1] 27 (0, 0)) (pK BKA.out) hg (Kd.R_ne HO_E.out BKA.out (by decide))); replace BKD := Aside0.mk (blk_grown (g := gbD) (o := .cells #[.int .i64 0, .int .i64 0, .int .i64 0, .slice none 0 0] 32 (0, 0)) (pK BKD.out) hg (Kd.R_ne HO_E.out BKD.out (by decide))); replace BKB := Aside0.mk (blk_grown (g := gbB) (o := .cells #[.int .i64 a1, .int .i64 (tF.length : Int), .int .i64 a0_0, .slice (some ⟨go58, 0, none⟩) xE_3.length co58] 32 (0, 0)) (pK BKB.out) hg (Kd.R_ne HO_E.out BKB.out (by decide))); replace HO_E := Aside0.mk (hp_); replace HB := Aside0.mk ((by rw [hw]; exact below_set (HB.out) GB58.out : Below w.heap.size w w65)); clear hg hw hp_))
                  (try simp only [← hl49_3])
                  go_roundg k3
                  case measure => have := HJ2.out; have := HK2.out; have := HK3.out; omega
                  case rel => exact ⟨(x9_3), (wrap64 (x12_3 + 1)), (x49_3), (yQ), (.slice (some ⟨go58, 0, none⟩) xE_3.length co58), p7, H', ⟨by have := HJ2.out; have := HK2.out; have := HK3.out; omega⟩, ⟨by (try simp only [hl49_2]); (try simp only [hl49_3]); (with_reducible repeat (first | apply Kd.R_alloc | apply Kd.R_drewN | apply Kd.R_drew)); (first | exact HO_9.out | (have h_ := HO_9.out; (try simp only [hl49_2] at h_); (try simp only [hl49_3] at h_); exact h_))⟩, ⟨by (try simp only [hl49_2]); (try simp only [hl49_3]); (with_reducible repeat (first | apply Kd.R_alloc | apply Kd.R_drewN | apply Kd.R_drew)); (first | exact HO_49.out | (have h_ := HO_49.out; (try simp only [hl49_2] at h_); (try simp only [hl49_3] at h_); exact h_))⟩, ⟨by (try simp only [hl49_2]); (try simp only [hl49_3]); (with_reducible repeat (first | apply Kd.R_alloc | apply Kd.R_drewN | apply Kd.R_drew)); (first | exact HO_E.out | (have h_ := HO_E.out; (try simp only [hl49_2] at h_); (try simp only [hl49_3] at h_); exact h_))⟩, ⟨by (try simp only [hl49_2]); (try simp only [hl49_3]); (with_reducible repeat (first | refine blk_drewN ?_ _ | refine blk_drew ?_ | refine blk_alloc ?_ _)); (first | exact BKA.out | (have h_ := BKA.out; (try simp only [hl49_2] at h_); (try simp only [hl49_3] at h_); exact h_))⟩, ⟨by (try simp only [hl49_2]); (try simp only [hl49_3]); (with_reducible repeat (first | refine blk_drewN ?_ _ | refine blk_drew ?_ | refine blk_alloc ?_ _)); (first | exact BKD.out | (have h_ := BKD.out; (try simp only [hl49_2] at h_); (try simp only [hl49_3] at h_); exact h_))⟩, ⟨by (try simp only [hl49_2]); (try simp only [hl49_3]); (with_reducible repeat (first | refine blk_drewN ?_ _ | refine blk_drew ?_ | refine blk_alloc ?_ _)); (first | exact BKB.out | (have h_ := BKB.out; (try simp only [hl49_2] at h_); (try simp only [hl49_3] at h_); exact h_))⟩, ⟨pB⟩⟩
                 ·rw [if_neg c57] at H
                  exact absurd H (by simp)
                ·rw [if_neg c56] at H
                 exact absurd H (by simp)
               ·rw [if_neg c54] at H
                have c54b0 : (x12_3 == (rd x49_2 x51_2)) = false := beq_eq_false_iff_ne.mpr c54
                have c54b1 : (x12_3 != (rd x49_2 x51_2)) = true := bne_iff_ne.mpr c54
                replace H := bS H
                obtain ⟨tAg, A66, H⟩ := H
                by_cases c67 : tAg = true
                ·subst c67
                 replace H := iP H
                 have H' := Aside0.mk H
                 clear H
                 have hnb68 := NBA_D.out
                 have hnc68 := NBD_A.out
                 have hnb69 := NBA_B.out
                 have hnc69 := NBB_A.out
                 obtain ⟨hcz70_0, hcz70_1, hfz70_0, hfz70_1⟩ := bc2 BKA.out
                 go_wp2_with (first | ((with_reducible refine gate_callee (f := 32) rfl ?_); refine goesL_ (some 78) rfl rfl Try.func32 kr rfl #[.int .i64 (rd l0_1 0), .int .i64 x12_3] rfl p5 ?_; (with_reducible refine (impl_HasElement.calls (rd l0_1 0) x12_3 true _ A66.out).mono ?_); rintro e w' ⟨rfl, ⟨nd, rfl⟩⟩; refine ⟨_, rfl, ?_⟩))
                 (try simp only [← hl49_3])
                 go_roundg k3
                 case measure => have := HJ2.out; have := HK2.out; have := HK3.out; omega
                 case rel => exact ⟨(x9_3), (wrap64 (x12_3 + 1)), (x49_3), (xE_3), (uE), p7, H', ⟨by have := HJ2.out; have := HK2.out; have := HK3.out; omega⟩, ⟨by (try simp only [hl49_2]); (try simp only [hl49_3]); (with_reducible repeat (first | apply Kd.R_alloc | apply Kd.R_drewN | apply Kd.R_drew)); (first | exact HO_9.out | (have h_ := HO_9.out; (try simp only [hl49_2] at h_); (try simp only [hl49_3] at h_); exact h_))⟩, ⟨by (try simp only [hl49_2]); (try simp only [hl49_3]); (with_reducible repeat (first | apply Kd.R_alloc | apply Kd.R_drewN | apply Kd.R_drew)); (first | exact HO_49.out | (have h_ := HO_49.out; (try simp only [hl49_2] at h_); (try simp only [hl49_3] at h_); exact h_))⟩, ⟨by (try simp only [hl49_2]); (try simp only [hl49_3]); (with_reducible repeat (first | apply Kd.R_alloc | apply Kd.R_drewN | apply Kd.R_drew)); (first | exact HO_E.out | (have h_ := HO_E.out; (try simp only [hl49_2] at h_); (try simp only [hl49_3] at h_); exact h_))⟩, ⟨by (try simp only [hl49_2]); (try simp only [hl49_3]); (with_reducible repeat (first | refine blk_drewN ?_ _ | refine blk_drew ?_ | refine blk_alloc ?_ _)); (first | exact BKA.out | (have h_ := BKA.out; (try simp only [hl49_2] at h_); (try simp only [hl49_3] at h_); exact h_))⟩, ⟨by (try simp only [hl49_2]); (try simp only [hl49_3]); (with_reducible repeat (first | refine blk_drewN ?_ _ | refine blk_drew ?_ | refine blk_alloc ?_ _)); (first | exact BKD.out | (have h_ := BKD.out; (try simp only [hl49_2] at h_); (try simp only [hl49_3] at h_); exact h_))⟩, ⟨by (try simp only [hl49_2]); (try simp only [hl49_3]); (with_reducible repeat (first | refine blk_drewN ?_ _ | refine blk_drew ?_ | refine blk_alloc ?_ _)); (first | exact BKB.out | (have h_ := BKB.out; (try simp only [hl49_2] at h_); (try simp only [hl49_3] at h_); exact h_))⟩, ⟨pB⟩⟩
                ·replace c67 := Bool.eq_false_iff.mpr c67
                 subst c67
                 replace H := iN H
                 replace H := bS H
                 obtain ⟨tY, A71, H⟩ := H
                 replace H := bS H
                 obtain ⟨tAh, A72, H⟩ := H
                 by_cases c73 : tAh = true
                 ·subst c73
                  replace H := iP H
                  by_cases c74 : x9_3.length < 17592186044416
                  ·rw [if_pos c74] at H
                   have LMc74 := Aside0.mk c74
                   clear c74
                   obtain ⟨yT, hyT⟩ : ∃ y_ : List Int, y_ = (x9_3 ++ [wrap64 ((wrap64 (x51_2 * a0_0)) + x12_3)]) := ⟨_, rfl⟩
                   replace H : (impl_FindMatrix.l1 k3 (rd l0_1 0) yT x51_2 (rd x49_2 x51_2) (wrap64 (x12_3 + 1)) x49_3 (tF.length : Int) x51_2 a0_0 l0_1 a1 (tF.length : Int) a0_0 xE_3) = some (r1, r2, r3, r4, r5) := yR hyT H
                   have NyT := Aside0.mk hyT
                   clear hyT
                   have H' := Aside0.mk H
                   clear H
                   have hnb75 := NBA_D.out
                   have hnc75 := NBD_A.out
                   have hnb76 := NBA_B.out
                   have hnc76 := NBB_A.out
                   obtain ⟨hcz77_0, hcz77_1, hfz77_0, hfz77_1⟩ := bc2 BKA.out
                   go_wp2_with (first | ((with_reducible refine gate_callee (f := 32) rfl ?_); refine goesL_ (some 78) rfl rfl Try.func32 kr rfl #[.int .i64 (rd l0_1 0), .int .i64 x12_3] rfl p5 ?_; (with_reducible refine (impl_HasElement.calls (rd l0_1 0) x12_3 false _ A66.out).mono ?_); rintro e w' ⟨rfl, ⟨nd, rfl⟩⟩; refine ⟨_, rfl, ?_⟩) | (go_at_call 33; (with_reducible refine (impl_circuit.calls k3 a0_0 _ _ l0_1 (rd l0_1 0) x12_3 tY _ ?side1 ?side2 A71.out).mono ?_); (case side1 => repeat (first | exact (Kd.C_below HR0_1.out pB) | (with_reducible refine Kd.C_alloc ?_ _) | (with_reducible refine Kd.C_drewN ?_ _) | (with_reducible refine Kd.C_drew ?_))); (case side2 => exact HC0_1.out); rintro e w78 ⟨rfl, hb⟩; replace HO_9 := aR HO_9 hb; replace HO_49 := aR HO_49 hb; replace HO_E := aR HO_E hb; replace BKA := aB BKA hb; replace BKD := aB BKD hb; replace BKB := aB BKB hb; replace HB := aH hb; (try clear hb); (try clear hk)) | (go_at_call 32; (with_reducible refine (impl_HasElement.calls tY (rd x49_2 x51_2) true _ A72.out).mono ?_); rintro e w' ⟨rfl, ⟨nd, rfl⟩⟩; obtain ⟨hcz79_0, hcz79_1, hfz79_0, hfz79_1⟩ := bc2 BKA.out) | ((with_reducible refine gate_builtin (b := .append) (xs := #[.tmp 88, .tmp 95]) rfl ?_); at_builtin; refine Kd.R_append (Kd.int .i64) (w0 := w) w.heap.size rfl (.tmp 88) (.tmp 95) 22 3 (.int .i64 0) 8 rfl Try.underlying22 info3 rfl (by decide) (by omega) u9 x9_3 (wrap64 ((wrap64 (x51_2 * a0_0)) + x12_3)) [.int .i64 (wrap64 ((wrap64 (x51_2 * a0_0)) + x12_3))] (fun k_ => some k_ ≠ (.slice (some adL) x49_3.length co37 : Value).ownBlock ∧ some k_ ≠ (uE : Value).ownBlock) (fun _ => False) rfl rfl ?aP (fun _ hk => hk.elim) ?aF ?aO ?aB ?aS ?aL ?_; (case aP => exact rfl); (case aB => exact pB); (case aF => exact (fun k_ hk => ⟨Kd.fresh' (Kd.R_lt (pR HO_49.out)) k_ hk, Kd.fresh' (Kd.R_lt (pR HO_E.out)) k_ hk⟩)); (case aO => exact (pR HO_9.out)); (case aS => exact (below_size pB)); (case aL => have := LMc74.out; omega); intro vAn w80 ho hb hg hat; rw [← NyT.out] at ho; have n0_ := Aside0.mk (Kd.R_after (ok := (fun k_ => some k_ ≠ (uE : Value).ownBlock)) (by (with_reducible repeat (first | apply Kd.R_alloc | apply Kd.R_drewN | apply Kd.R_drew)); exact Kd.R_mono HO_49.out (fun _ hk => ⟨hk.2, hk.1⟩)) hg hat); have n1_ := Aside0.mk (Kd.R_after (ok := (fun k_ => some k_ ≠ (.slice (some adL) x49_3.length co37 : Value).ownBlock)) (by (with_reducible repeat (first | apply Kd.R_alloc | apply Kd.R_drewN | apply Kd.R_drew)); exact Kd.R_mono HO_E.out (fun _ hk => ⟨hk.2, hk.1⟩)) hg hat); have n2_ := Aside0.mk (blk_grown (g := gbA) (o := .cells #[.int .i64 a0_0, .slice (some adG) l0_1.length c0_1] 27 (0, 0)) (pK BKA.out) hg (Kd.R_ne HO_9.out BKA.out (by decide))); have n3_ := Aside0.mk (blk_grown (g := gbD) (o := .cells #[.int .i64 0, .int .i64 0, .int .i64 0, .slice none 0 0] 32 (0, 0)) (pK BKD.out) hg (Kd.R_ne HO_9.out BKD.out (by decide))); have n4_ := Aside0.mk (blk_grown (g := gbB) (o := .cells #[.int .i64 a1, .int .i64 (tF.length : Int), .int .i64 a0_0, uE] 32 (0, 0)) (pK BKB.out) hg (Kd.R_ne HO_9.out BKB.out (by decide))); have n5_ := Aside0.mk (hb); have n6_ := Aside0.mk (ho); clear HO_49; clear HO_E; clear BKA; clear BKD; clear BKB; clear HB; clear HO_9; have HO_49 := n0_; have HO_E := n1_; have BKA := n2_; have BKD := n3_; have BKB := n4_; have HB := n5_; have HOAc := n6_; clear n0_ n1_ n2_ n3_ n4_ n5_ n6_; clear ho hb hg hat))
                   (try simp only [← hl49_3])
                   go_roundg k3
                   case measure => have := HJ2.out; have := HK2.out; have := HK3.out; omega
                   case rel => exact ⟨(yT), (wrap64 (x12_3 + 1)), (x49_3), (xE_3), (uE), p7, H', ⟨by have := HJ2.out; have := HK2.out; have := HK3.out; omega⟩, ⟨by (try simp only [hl49_2]); (try simp only [hl49_3]); (with_reducible repeat (first | apply Kd.R_alloc | apply Kd.R_drewN | apply Kd.R_drew)); (first | exact HOAc.out | (have h_ := HOAc.out; (try simp only [hl49_2] at h_); (try simp only [hl49_3] at h_); exact h_))⟩, ⟨by (try simp only [hl49_2]); (try simp only [hl49_3]); (with_reducible repeat (first | apply Kd.R_alloc | apply Kd.R_drewN | apply Kd.R_drew)); exact Kd.R_mono HO_49.out (fun _ hk => ⟨hk.2, hk.1⟩)⟩, ⟨by (try simp only [hl49_2]); (try simp only [hl49_3]); (with_reducible repeat (first | apply Kd.R_alloc | apply Kd.R_drewN | apply Kd.R_drew)); exact Kd.R_mono HO_E.out (fun _ hk => ⟨hk.2, hk.1⟩)⟩, ⟨by (try simp only [hl49_2]); (try simp only [hl49_3]); (with_reducible repeat (first | refine blk_drewN ?_ _ | refine blk_drew ?_ | refine blk_alloc ?_ _)); (first | exact BKA.out | (have h_ := BKA.out; (try simp only [hl49_2] at h_); (try simp only [hl49_3] at h_); exact h_))⟩, ⟨by (try simp only [hl49_2]); (try simp only [hl49_3]); (with_reducible repeat (first | refine blk_drewN ?_ _ | refine blk_drew ?_ | refine blk_alloc ?_ _)); (first | exact BKD.out | (have h_ := BKD.out; (try simp only [hl49_2] at h_); (try simp only [hl49_3] at h_); exact h_))⟩, ⟨by (try simp only [hl49_2]); (try simp only [hl49_3]); (with_reducible repeat (first | refine blk_drewN ?_ _ | refine blk_drew ?_ | refine blk_alloc ?_ _)); (first | exact BKB.out | (have h_ := BKB.out; (try simp only [hl49_2] at h_); (try simp only [hl49_3] at h_); exact h_))⟩, ⟨pB⟩⟩
                  ·rw [if_neg c74] at H
                   exact absurd H (by simp)
                 ·replace c73 := Bool.eq_false_iff.mpr c73
                  subst c73
                  replace H := iN H
                  have H' := Aside0.mk H
                  clear H
                  have hnb81 := NBA_D.out
                  have hnc81 := NBD_A.out
                  have hnb82 := NBA_B.out
                  have hnc82 := NBB_A.out
                  obtain ⟨hcz83_0, hcz83_1, hfz83_0, hfz83_1⟩ := bc2 BKA.out
                  go_wp2_with (first | ((with_reducible refine gate_callee (f := 32) rfl ?_); refine goesL_ (some 78) rfl rfl Try.func32 kr rfl #[.int .i64 (rd l0_1 0), .int .i64 x12_3] rfl p5 ?_; (with_reducible refine (impl_HasElement.calls (rd l0_1 0) x12_3 false _ A66.out).mono ?_); rintro e w' ⟨rfl, ⟨nd, rfl⟩⟩; refine ⟨_, rfl, ?_⟩) | (go_at_call 33; (with_reducible refine (impl_circuit.calls k3 a0_0 _ _ l0_1 (rd l0_1 0) x12_3 tY _ ?side1 ?side2 A71.out).mono ?_); (case side1 => repeat (first | exact (Kd.C_below HR0_1.out pB) | (with_reducible refine Kd.C_alloc ?_ _) | (with_reducible refine Kd.C_drewN ?_ _) | (with_reducible refine Kd.C_drew ?_))); (case side2 => exact HC0_1.out); rintro e w84 ⟨rfl, hb⟩; replace HO_9 := aR HO_9 hb; replace HO_49 := aR HO_49 hb; replace HO_E := aR HO_E hb; replace BKA := aB BKA hb; replace BKD := aB BKD hb; replace BKB := aB BKB hb; replace HB := aH hb; (try clear hb)) | (go_at_call 32; (with_reducible refine (impl_HasElement.calls tY (rd x49_2 x51_2) false _ A72.out).mono ?_); rintro e w' ⟨rfl, ⟨nd, rfl⟩⟩))
                  (try simp only [← hl49_3])
                  go_roundg k3
                  case measure => have := HJ2.out; have := HK2.out; have := HK3.out; omega
                  case rel => exact ⟨(x9_3), (wrap64 (x12_3 + 1)), (x49_3), (xE_3), (uE), p7, H', ⟨by have := HJ2.out; have := HK2.out; have := HK3.out; omega⟩, ⟨by (try simp only [hl49_2]); (try simp only [hl49_3]); (with_reducible repeat (first | apply Kd.R_alloc | apply Kd.R_drewN | apply Kd.R_drew)); (first | exact HO_9.out | (have h_ := HO_9.out; (try simp only [hl49_2] at h_); (try simp only [hl49_3] at h_); exact h_))⟩, ⟨by (try simp only [hl49_2]); (try simp only [hl49_3]); (with_reducible repeat (first | apply Kd.R_alloc | apply Kd.R_drewN | apply Kd.R_drew)); (first | exact HO_49.out | (have h_ := HO_49.out; (try simp only [hl49_2] at h_); (try simp only [hl49_3] at h_); exact h_))⟩, ⟨by (try simp only [hl49_2]); (try simp only [hl49_3]); (with_reducible repeat (first | apply Kd.R_alloc | apply Kd.R_drewN | apply Kd.R_drew)); (first | exact HO_E.out | (have h_ := HO_E.out; (try simp only [hl49_2] at h_); (try simp only [hl49_3] at h_); exact h_))⟩, ⟨by (try simp only [hl49_2]); (try simp only [hl49_3]); (with_reducible repeat (first | refine blk_drewN ?_ _ | refine blk_drew ?_ | refine blk_alloc ?_ _)); (first | exact BKA.out | (have h_ := BKA.out; (try simp only [hl49_2] at h_); (try simp only [hl49_3] at h_); exact h_))⟩, ⟨by (try simp only [hl49_2]); (try simp only [hl49_3]); (with_reducible repeat (first | refine blk_drewN ?_ _ | refine blk_drew ?_ | refine blk_alloc ?_ _)); (first | exact BKD.out | (have h_ := BKD.out; (try simp only [hl49_2] at h_); (try simp only [hl49_3] at h_); exact h_))⟩, ⟨by (try simp only [hl49_2]); (try simp only [hl49_3]); (with_reducible repeat (first | refine blk_drewN ?_ _ | refine blk_drew ?_ | refine blk_alloc ?_ _)); (first | exact BKB.out | (have h_ := BKB.out; (try simp only [hl49_2] at h_); (try simp only [hl49_3] at h_); exact h_))⟩, ⟨pB⟩⟩
              ·rw [if_neg c53] at H
               have c53b0 : decide (x12_3 < a0_0) = false := decide_eq_false c53
               clear c53
               have H' := Aside0.mk H
               clear H
               have hnb85 := NBA_D.out
               have hnc85 := NBD_A.out
               have hnb86 := NBA_B.out
               have hnc86 := NBB_A.out
               obtain ⟨hcz87_0, hcz87_1, hfz87_0, hfz87_1⟩ := bc2 BKA.out
               go_wp2
               (try simp only [← hl49_2, ← hl49_3])
               go_roundg k3
               case measure => have := HJ2.out; have := HK2.out; have := HK3.out; omega
               case rel => exact ⟨(x9_3), (x49_3), (wrap64 (x51_2 + 1)), (xE_3), (uE), p7, H', ⟨by have := HJ2.out; have := HK2.out; have := HK3.out; omega⟩, ⟨by (try simp only [hl49_2]); (try simp only [hl49_3]); (with_reducible repeat (first | apply Kd.R_alloc | apply Kd.R_drewN | apply Kd.R_drew)); (first | exact HO_9.out | (have h_ := HO_9.out; (try simp only [hl49_2] at h_); (try simp only [hl49_3] at h_); exact h_))⟩, ⟨by (try simp only [hl49_2]); (try simp only [hl49_3]); (with_reducible repeat (first | apply Kd.R_alloc | apply Kd.R_drewN | apply Kd.R_drew)); (first | exact HO_49.out | (have h_ := HO_49.out; (try simp only [hl49_2] at h_); (try simp only [hl49_3] at h_); exact h_))⟩, ⟨by (try simp only [hl49_2]); (try simp only [hl49_3]); (with_reducible repeat (first | apply Kd.R_alloc | apply Kd.R_drewN | apply Kd.R_drew)); (first | exact HO_E.out | (have h_ := HO_E.out; (try simp only [hl49_2] at h_); (try simp only [hl49_3] at h_); exact h_))⟩, ⟨by (try simp only [hl49_2]); (try simp only [hl49_3]); (with_reducible repeat (first | refine blk_drewN ?_ _ | refine blk_drew ?_ | refine blk_alloc ?_ _)); (first | exact BKA.out | (have h_ := BKA.out; (try simp only [hl49_2] at h_); (try simp only [hl49_3] at h_); exact h_))⟩, ⟨by (try simp only [hl49_2]); (try simp only [hl49_3]); (with_reducible repeat (first | refine blk_drewN ?_ _ | refine blk_drew ?_ | refine blk_alloc ?_ _)); (first | exact BKD.out | (have h_ := BKD.out; (try simp only [hl49_2] at h_); (try simp only [hl49_3] at h_); exact h_))⟩, ⟨by (try simp only [hl49_2]); (try simp only [hl49_3]); (with_reducible repeat (first | refine blk_drewN ?_ _ | refine blk_drew ?_ | refine blk_alloc ?_ _)); (first | exact BKB.out | (have h_ := BKB.out; (try simp only [hl49_2] at h_); (try simp only [hl49_3] at h_); exact h_))⟩, ⟨pB⟩⟩
           ·rw [if_neg c52] at H
            exact absurd H (by simp)
          ·rw [if_neg c51] at H
           exact absurd H (by simp)
         ·rw [if_neg c50] at H
          have c50b0 : decide (x51_2 < (tF.length : Int)) = false := decide_eq_false c50
          clear c50
          replace H := Option.bind_eq_some_iff.mp H
          obtain ⟨⟨tAd, tAa⟩, AAe, H⟩ := H
          replace H : (if tAd = true then (some (a1, (tF.length : Int), a0_0, tAa, true)) else (some (0, 0, 0, ([] : List Int), false))) = some (r1, r2, r3, r4, r5) := H
          have A88 := Aside0.mk AAe
          clear AAe
          by_cases c89 : tAd = true
          ·subst c89
           replace H := iP H
           simp only [Option.some.injEq, Prod.mk.injEq] at H
           obtain ⟨rfl, rfl, rfl, rfl, rfl⟩ := H
           have hnb90 := NBA_D.out
           have hnc90 := NBD_A.out
           have hnb91 := NBA_B.out
           have hnc91 := NBB_A.out
           obtain ⟨hcz92_0, hcz92_1, hfz92_0, hfz92_1⟩ := bc2 BKA.out
           have hnb93 := NBB_D.out
           have hnc93 := NBD_B.out
           (try simp only [← hl49_2])
           (try simp only [← hl49_2] at HO_49)
           (try simp only [← hl49_2] at BKB)
           (try simp only [← hl49_2] at HO_9)
           (try simp only [← hl49_2] at HO_E)
           have HLQ_ := Aside0.mk hl49_2
           clear hl49_2
           obtain ⟨hcz94_0, hcz94_1, hcz94_2, hcz94_3, hfz94_0, hfz94_1, hfz94_2, hfz94_3⟩ := bc4 BKB.out
           obtain ⟨Ao95, co95, eo95⟩ := Kd.R_slice HO_E.out
           subst eo95
           obtain ⟨Ao96, co96, eo96⟩ := Kd.R_slice HO_9.out
           subst eo96
           go_wp2_with (first | ((with_reducible refine gate_callee (f := 34) rfl ?_); refine goesL_ (some 101) rfl rfl Try.func34 kr rfl #[.agg #[.int .i64 a0_0, .slice (some adG) l0_1.length c0_1], .agg #[.int .i64 a1, .int .i64 (tF.length : Int), .int .i64 a0_0, .slice Ao95 xE_2.length co95], .slice Ao96 x9_2.length co96] rfl p5 ?_; (with_reducible refine (impl_fillCells.calls k2 a0_0 _ _ l0_1 a1 (tF.length : Int) a0_0 (fun k_ => some k_ = (.slice Ao95 xE_2.length co95 : Value).ownBlock) (.slice Ao95 xE_2.length co95) xE_2 _ _ x9_2 true tAa w _ ?side1 ?side2 ?side3 ?side4 ?side5 ?side6 A88.out).mono ?_); (case side1 => repeat (first | (with_reducible first | exact HB.out | apply below_alloc | apply pw_below_drewN | apply below_drew1 | refine below_set ?_ GEA.out | refine below_set ?_ GED.out | refine below_set ?_ GEB.out) | exact HB.out)); (case side2 => exact Kd.C_kept_came (Kd.heap_int .i64) HR0_1.out pB (fun k_ hs_ => (fun e_ => Kd.R_base HO_E.out k_ e_.symm) hs_)); (case side3 => exact HC0_1.out); (case side4 => exact Kd.R_tight rfl HO_E.out); (case side5 => exact Kd.C_kept_own (HO_9.out) (fun k_ hk_ hs_ => (hk_.2) hs_)); (case side6 => exact (Kd.R_reads' HO_9.out).2.1); rintro e w97 ⟨rfl, hy0, hb, hkp⟩; refine ⟨_, rfl, ?_⟩; replace HO_9 := Aside0.mk (Kd.R_mono (ok' := fun k_ => some k_ ≠ (.slice Ao37 tF.length co37 : Value).ownBlock ∧ some k_ ≠ (.slice Ao95 xE_2.length co95 : Value).ownBlock) (Kd.R_keptB (HO_9.out) hkp (fun k_ hk_ hs_ => (hk_.2) hs_)) (fun k_ hk_ => ⟨hk_.1.1, hk_.1.2⟩)); replace HO_49 := Aside0.mk (Kd.R_mono (ok' := fun k_ => some k_ ≠ (.slice Ao96 x9_2.length co96 : Value).ownBlock ∧ some k_ ≠ (.slice Ao95 xE_2.length co95 : Value).ownBlock) (Kd.R_keptB (HO_49.out) hkp (fun k_ hk_ hs_ => (hk_.2) hs_)) (fun k_ hk_ => ⟨hk_.1.1, hk_.1.2⟩)); replace BKA := Aside0.mk (blk_kept (pK BKA.out) hkp (fun hs_ => (fun e_ => (Kd.R_ne HO_E.out BKA.out (by decide)) e_) hs_)); replace BKD := Aside0.mk (blk_kept (pK BKD.out) hkp (fun hs_ => (fun e_ => (Kd.R_ne HO_E.out BKD.out (by decide)) e_) hs_)); replace BKB := Aside0.mk (blk_kept (pK BKB.out) hkp (fun hs_ => (fun e_ => (Kd.R_ne HO_E.out BKB.out (by decide)) e_) hs_)); replace HO_E := Aside0.mk (Kd.R_reok rfl hy0 (fun k_ e_ => HO_E.out.1 k_ e_)); replace HB := Aside0.mk (hb); (try clear hb); (try clear hkp); (try clear hy0); obtain ⟨hcz98_0, hcz98_1, hcz98_2, hcz98_3, hfz98_0, hfz98_1, hfz98_2, hfz98_3⟩ := bc4 BKB.out; obtain ⟨hcz99_0, hcz99_1, hcz99_2, hcz99_3, hfz99_0, hfz99_1, hfz99_2, hfz99_3⟩ := bc4 BKD.out))
           refine bodyPost_ret (results_ct rfl _ _ gbD 32 #[.int .i64 a1, .int .i64 (tF.length : Int), .int .i64 a0_0, .slice Ao95 xE_2.length co95] (0, 0) _ rfl (by (with_reducible repeat (first | refine blk_drewN ?_ _ | refine blk_drew ?_ | refine blk_alloc ?_ _)); refine blk_put (cs := #[.int .i64 a1, .int .i64 (tF.length : Int), .int .i64 a0_0, .slice none 0 0]) ?_ 3 _ rfl; (with_reducible repeat (first | refine blk_drewN ?_ _ | refine blk_drew ?_ | refine blk_alloc ?_ _)); refine blk_put (cs := #[.int .i64 a1, .int .i64 (tF.length : Int), .int .i64 0, .slice none 0 0]) ?_ 2 _ rfl; (with_reducible repeat (first | refine blk_drewN ?_ _ | refine blk_drew ?_ | refine blk_alloc ?_ _)); refine blk_put (cs := #[.int .i64 a1, .int .i64 0, .int .i64 0, .slice none 0 0]) ?_ 1 _ rfl; (with_reducible repeat (first | refine blk_drewN ?_ _ | refine blk_drew ?_ | refine blk_alloc ?_ _)); refine blk_put (cs := #[.int .i64 0, .int .i64 0, .int .i64 0, .slice none 0 0]) ?_ 0 _ rfl; exact pK BKD.out) Try.underlying32 rfl kr) rfl ?_
           exact ⟨_, by first | rfl | (simp [errW_none, errW_some] <;> rfl) | (simp only [← hji30]; first | rfl | (simp [errW_none, errW_some] <;> rfl)) | (simp [*, errW_none, errW_some] <;> rfl), by (with_reducible repeat (first | apply Kd.R_alloc | apply Kd.R_drewN | apply Kd.R_drew)); exact Kd.R_mono (Kd.R_far (p := ⟨gbD, 3, none⟩) (Kd.R_far (p := ⟨gbD, 2, none⟩) (Kd.R_far (p := ⟨gbD, 1, none⟩) (Kd.R_far (p := ⟨gbD, 0, none⟩) (Kd.R_types HO_E.out BKD.out (by decide)) (fun _ hk => hk.2) (.int .i64 a1)) (fun _ hk => hk.2) (.int .i64 (tF.length : Int))) (fun _ hk => hk.2) (.int .i64 a0_0)) (fun _ hk => hk.2) (.slice Ao95 xE_2.length co95)) (fun _ hk => trivial), pB⟩
          ·replace c89 := Bool.eq_false_iff.mpr c89
           subst c89
           replace H := iN H
           simp only [Option.some.injEq, Prod.mk.injEq] at H
           obtain ⟨rfl, rfl, rfl, rfl, rfl⟩ := H
           have hnbAi := NBA_D.out
           have hncAi := NBD_A.out
           have hnbAj := NBA_B.out
           have hncAj := NBB_A.out
           obtain ⟨hczAb_0, hczAb_1, hfzAb_0, hfzAb_1⟩ := bc2 BKA.out
           have hnbAk := NBB_D.out
           have hncAk := NBD_B.out
           (try simp only [← hl49_2])
           (try simp only [← hl49_2] at HO_49)
           (try simp only [← hl49_2] at BKB)
           (try simp only [← hl49_2] at HO_9)
           (try simp only [← hl49_2] at HO_E)
           have HLQ_ := Aside0.mk hl49_2
           clear hl49_2
           obtain ⟨hczU_0, hczU_1, hczU_2, hczU_3, hfzU_0, hfzU_1, hfzU_2, hfzU_3⟩ := bc4 BKB.out
           obtain ⟨AoO, coO, eoO⟩ := Kd.R_slice HO_E.out
           subst eoO
           obtain ⟨AoV, coV, eoV⟩ := Kd.R_slice HO_9.out
           subst eoV
           go_wp2_with (first | ((with_reducible refine gate_callee (f := 34) rfl ?_); refine goesL_ (some 101) rfl rfl Try.func34 kr rfl #[.agg #[.int .i64 a0_0, .slice (some adG) l0_1.length c0_1], .agg #[.int .i64 a1, .int .i64 (tF.length : Int), .int .i64 a0_0, .slice AoO xE_2.length coO], .slice AoV x9_2.length coV] rfl p5 ?_; (with_reducible refine (impl_fillCells.calls k2 a0_0 _ _ l0_1 a1 (tF.length : Int) a0_0 (fun k_ => some k_ = (.slice AoO xE_2.length coO : Value).ownBlock) (.slice AoO xE_2.length coO) xE_2 _ _ x9_2 false tAa w _ ?side1 ?side2 ?side3 ?side4 ?side5 ?side6 A88.out).mono ?_); (case side1 => repeat (first | (with_reducible first | exact HB.out | apply below_alloc | apply pw_below_drewN | apply below_drew1 | refine below_set ?_ GEA.out | refine below_set ?_ GED.out | refine below_set ?_ GEB.out) | exact HB.out)); (case side2 => exact Kd.C_kept_came (Kd.heap_int .i64) HR0_1.out pB (fun k_ hs_ => (fun e_ => Kd.R_base HO_E.out k_ e_.symm) hs_)); (case side3 => exact HC0_1.out); (case side4 => exact Kd.R_tight rfl HO_E.out); (case side5 => exact Kd.C_kept_own (HO_9.out) (fun k_ hk_ hs_ => (hk_.2) hs_)); (case side6 => exact (Kd.R_reads' HO_9.out).2.1); rintro e wAo ⟨rfl, hy0, hb, hkp⟩; refine ⟨_, rfl, ?_⟩; replace HO_9 := Aside0.mk (Kd.R_mono (ok' := fun k_ => some k_ ≠ (.slice Ao37 tF.length co37 : Value).ownBlock ∧ some k_ ≠ (.slice AoO xE_2.length coO : Value).ownBlock) (Kd.R_keptB (HO_9.out) hkp (fun k_ hk_ hs_ => (hk_.2) hs_)) (fun k_ hk_ => ⟨hk_.1.1, hk_.1.2⟩)); replace HO_49 := Aside0.mk (Kd.R_mono (ok' := fun k_ => some k_ ≠ (.slice AoV x9_2.length coV : Value).ownBlock ∧ some k_ ≠ (.slice AoO xE_2.length coO : Value).ownBlock) (Kd.R_keptB (HO_49.out) hkp (fun k_ hk_ hs_ => (hk_.2) hs_)) (fun k_ hk_ => ⟨hk_.1.1, hk_.1.2⟩)); replace BKA := Aside0.mk (blk_kept (pK BKA.out) hkp (fun hs_ => (fun e_ => (Kd.R_ne HO_E.out BKA.out (by decide)) e_) hs_)); replace BKD := Aside0.mk (blk_kept (pK BKD.out) hkp (fun hs_ => (fun e_ => (Kd.R_ne HO_E.out BKD.out (by decide)) e_) hs_)); replace BKB := Aside0.mk (blk_kept (pK BKB.out) hkp (fun hs_ => (fun e_ => (Kd.R_ne HO_E.out BKB.out (by decide)) e_) hs_)); replace HO_E := Aside0.mk (Kd.R_reok rfl hy0 (fun k_ e_ => HO_E.out.1 k_ e_)); replace HB := Aside0.mk (hb); (try clear hb); (try clear hkp); (try clear hy0); obtain ⟨hczW_0, hczW_1, hczW_2, hczW_3, hfzW_0, hfzW_1, hfzW_2, hfzW_3⟩ := bc4 BKD.out))
           refine bodyPost_ret (results_ct rfl _ _ gbD 32 #[.int .i64 0, .int .i64 0, .int .i64 0, .slice none 0 0] (0, 0) _ rfl (by (with_reducible repeat (first | refine blk_drewN ?_ _ | refine blk_drew ?_ | refine blk_alloc ?_ _)); refine blk_put (cs := #[.int .i64 0, .int .i64 0, .int .i64 0, .slice none 0 0]) ?_ 3 _ rfl; (with_reducible repeat (first | refine blk_drewN ?_ _ | refine blk_drew ?_ | refine blk_alloc ?_ _)); refine blk_put (cs := #[.int .i64 0, .int .i64 0, .int .i64 0, .slice none 0 0]) ?_ 2 _ rfl; (with_reducible repeat (first | refine blk_drewN ?_ _ | refine blk_drew ?_ | refine blk_alloc ?_ _)); refine blk_put (cs := #[.int .i64 0, .int .i64 0, .int .i64 0, .slice none 0 0]) ?_ 1 _ rfl; (with_reducible repeat (first | refine blk_drewN ?_ _ | refine blk_drew ?_ | refine blk_alloc ?_ _)); refine blk_put (cs := #[.int .i64 0, .int .i64 0, .int .i64 0, .slice none 0 0]) ?_ 0 _ rfl; exact pK BKD.out) Try.underlying32 rfl kr) rfl ?_
           exact ⟨_, by first | rfl | (simp [errW_none, errW_some] <;> rfl) | (simp only [← hji30]; first | rfl | (simp [errW_none, errW_some] <;> rfl)) | (simp [*, errW_none, errW_some] <;> rfl), p9, pB⟩
      ·rw [if_neg c32] at H
       exact absurd H (by simp)
     ·rw [if_neg c31] at H
      exact absurd H (by simp)
    ·rw [if_neg c28] at H
     exact absurd H (by simp)
end Go.Proofs.Ytbhckhblonkajaa.Q
