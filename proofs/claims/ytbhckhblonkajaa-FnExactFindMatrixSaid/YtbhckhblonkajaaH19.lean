/- Part of a proof: contracts and lemmas that the row's text uses; joined by a program. -/
import Derived.Test.YtbhckhblonkajaaH04
import Derived.Test.YtbhckhblonkajaaH15
import Derived.Test.YtbhckhblonkajaaH17
import Derived.Test.YtbhckhblonkajaaH18
set_option linter.unusedVariables false
set_option linter.unusedSimpArgs false
namespace Go.Proofs.Ytbhckhblonkajaa.Q
open Go.RowKit Go.Proofs.YtbhckhblonkajaaW.PrintWords Go.Proofs.YtbhckhblonkajaaW.PrintLast Go.Proofs.YtbhckhblonkajaaW.PrintMore
attribute [local go_sem] max2_int min2_int max_two min_two max_three min_three max_four min_four
mutual
def spec_l26Next.l0 : Nat → Int → Int → Int → Int → Int → List Int → Option (Bool × List Int)
 | 0, _, _, _, _, _, _ => none
 | k + 1, x1, x5, xC, xD, xB, xA => if x5 ≥ 0 then (if xB = 0 then (none) else ((spec_l2Has.f x1 (Int.tmod x5 xB)).bind fun tE => (if tE = true then (spec_l26Next.j1 k x1 x5 true xC xD xB xA) else (if 0 ≤ x5 then (if x5 < (xA.length : Int) then (spec_l26Next.j1 k x1 x5 ((rd xA x5) == 0) xC xD xB xA) else (none)) else (none))))) else (some (false, xA))
def spec_l26Next.j1 : Nat → Int → Int → Bool → Int → Int → Int → List Int → Option (Bool × List Int)
 | 0, _, _, _, _, _, _, _ => none
 | k + 1, x1, x5, x27, xC, xD, xB, xA => if x27 = true then (spec_l26Next.l0 k x1 (wrap64 (x5 - 1)) xC xD xB xA) else (if 0 ≤ x5 then (if x5 < (xA.length : Int) then (if (rd xA x5) < (wrap64 (xC - 1)) then (some (true, (xA.set (x5 : Int).toNat (wrap64 ((rd xA x5) + 1))))) else (spec_l26Next.l0 k x1 (wrap64 (x5 - 1)) xC xD xB (xA.set (x5 : Int).toNat 1))) else (none)) else (none))
end
def spec_l26Next.f (k : Nat) (a0_0 : Int) (a0_1 : Int) (a0_2 : Int) (l0_3 : List Int) (a1 : Int) : Option (Bool × List Int) := spec_l26Next.l0 k a1 (wrap64 ((l0_3.length : Int) - 1)) a0_0 a0_1 a0_2 l0_3
def spec_l26Next.T5 : Bool × List (List Nat × List Nat) := (true, [([], []), ([0], [0]), ([], []), ([1, 2], [1, 2]), ([3], [3]), ([], []), ([5], [5]), ([6], [6]), ([4, 7], [4, 7])])
def spec_l26Next.B5 : List Nat := [0, 1, 0, 7, 15, 0, 32, 96, 255]
theorem spec_l26Next.tab5 : rtab .any (opsOf Try.f29 5) = spec_l26Next.T5 := by kernel_rfl
theorem spec_l26Next.bits5 : waitsOk spec_l26Next.T5.2 spec_l26Next.B5 = true := by kernel_rfl
def spec_l26Next.T6 : Bool × List (List Nat × List Nat) := (true, [([], []), ([0], [0]), ([], []), ([], []), ([3], [3]), ([], []), ([4, 5], [4, 5]), ([6], [6]), ([7], [7]), ([1, 2, 0, 1, 2, 3, 4, 5, 6, 7, 8], [1, 2]), ([9, 8, 0, 1, 2, 3, 4, 5, 6, 7, 8], [8, 9])])
def spec_l26Next.B6 : List Nat := [0, 1, 0, 0, 8, 0, 56, 120, 248, 511, 1023]
theorem spec_l26Next.tab6 : rtab .any (opsOf Try.f29 6) = spec_l26Next.T6 := by kernel_rfl
theorem spec_l26Next.bits6 : waitsOk spec_l26Next.T6.2 spec_l26Next.B6 = true := by kernel_rfl
set_option maxHeartbeats 8000000 in
set_option maxRecDepth 100000 in
theorem spec_l26Next.calls (k : Nat) (a0_0 : Int) (a0_1 : Int) (a0_2 : Int) (P0_3_ : Nat → Prop) (u9000_ : Value) (l0_3 : List Int) (a1 : Int) (r1 : Bool) (r2 : List Int) (w0 w : World) (hB : Below w0.heap.size w0 w) (ho0_3 : Kd.R (Kd.int .i64) 3 w w0.heap.size P0_3_ u9000_ l0_3) (h : spec_l26Next.f k a0_0 a0_1 a0_2 l0_3 a1 = some (r1, r2)) :
  Calls Try.prog 29 #[.agg #[.int .i64 a0_0, .int .i64 a0_1, .int .i64 a0_2, u9000_], .int .i64 a1] w fun e w' => e = .returned (.bool r1) ∧ Kd.R (Kd.int .i64) 3 w' w0.heap.size (fun k_ => (P0_3_ k_ ∨ w.heap.size ≤ k_)) u9000_ r2 ∧ Below w0.heap.size w0 w' ∧ Kept w w' (fun k_ => P0_3_ k_) := by
 have hu32 := Try.underlying32
 have HO0_3 := Aside0.mk (show Kd.R (Kd.int .i64) 3 w w0.heap.size (fun k_ => (P0_3_ k_ ∨ w.heap.size ≤ k_)) u9000_ l0_3 from Kd.R_mono ho0_3 (fun k_ hk => (.inl hk)))
 have HK := Aside0.mk (Kept.refl w (fun k_ => P0_3_ k_))
 have HW0 := Aside0.mk hB.size
 have HB := Aside0.mk hB
 clear hB
 have H : (spec_l26Next.l0 k a1 (wrap64 ((l0_3.length : Int) - 1)) a0_0 a0_1 a0_2 l0_3) = some (r1, r2) := h
 clear h
 have H' := Aside0.mk H
 clear H
 obtain ⟨Ao3, co3, eo3⟩ := Kd.R_slice HO0_3.out
 subst eo3
 go_enter Try.func29, Try.ntmps29
 go_wp2_with (first | (refine bE 2 #[.int .i64 a0_0, .int .i64 a0_1, .int .i64 a0_2, .slice Ao3 l0_3.length co3] 32 ?_; intro gbB hg w4 hbox hb; replace HO0_3 := aR HO0_3 hb; have BKB := Aside0.mk hbox; have GWB := Aside0.mk ((by rw [hg]; exact (by first | exact HK.out.1 | exact (show Kept w _ (fun k_ => P0_3_ k_) from pH).1) : w.heap.size ≤ gbB)); replace HK := Aside0.mk (Kept.below (S := (fun k_ => P0_3_ k_)) pH hb); have GEB := aZ w0 hg; replace HB := aH hb; clear hb hbox hg; obtain ⟨hcz5_0, hcz5_1, hcz5_2, hcz5_3, hfz5_0, hfz5_1, hfz5_2, hfz5_3⟩ := bc4 BKB.out))
 go_loopg [5] k (fun kq v5 w' => ∃ (x5_1 : Int) (xA_1 : List Int), v5 = .int .i64 x5_1 ∧ Aside0 (spec_l26Next.l0 kq a1 x5_1 a0_0 a0_1 a0_2 xA_1 = some (r1, r2)) ∧ Aside0 (kq ≤ k) ∧ Aside0 (Kd.R (Kd.int .i64) 3 w' w0.heap.size (fun k_ => (P0_3_ k_ ∨ w.heap.size ≤ k_)) (.slice Ao3 l0_3.length co3) xA_1) ∧ Aside0 (w'.heap[gbB]? = some (.cells #[.int .i64 a0_0, .int .i64 a0_1, .int .i64 a0_2, (.slice Ao3 l0_3.length co3)] 32 (0, 0))) ∧ Aside0 (Kept w w' (fun k_ => P0_3_ k_)) ∧ Aside0 (Below w0.heap.size w0 w'))
 case atStart => exact ⟨(wrap64 ((l0_3.length : Int) - 1)), (l0_3), p7, H', ⟨Nat.le_refl _⟩, ⟨pR HO0_3.out⟩, ⟨pK BKB.out⟩, ⟨pH⟩, ⟨pB⟩⟩
 case round =>
  clear H'
  try clear hcz5_0
  try clear hcz5_1
  try clear hcz5_2
  try clear hcz5_3
  try clear hfz5_0
  try clear hfz5_1
  try clear hfz5_2
  try clear hfz5_3
  obtain ⟨x5_1, xA_1, rfl, HA, HK1, HO_A, BKB, HK, HB⟩ := hrel
  have hlA_1 := (Kd.R_reads' HO_A.out).1
  rw [hlA_1] at HO_A
  (try simp only [hlA_1])
  (try simp only [hlA_1] at BKB)
  cases gk with
  | zero => exact absurd HA.out (by simp [spec_l26Next.l0])
  | succ k1 =>
   have H := HA.out
   clear HA
   simp only [spec_l26Next.l0] at H
   by_cases c6 : x5_1 ≥ 0
   ·rw [if_pos c6] at H
    have c6b0 : decide (0 ≤ x5_1) = true := decide_eq_true c6
    clear c6
    have HC7 := Aside0.mk H
    clear H
    go_upto_region 4 with (fail)
    go_cut [27] (fun v27 wc => ∃ (kq : Nat) (x27_6 : Bool), v27 = .bool x27_6 ∧ Aside0 (spec_l26Next.j1 kq a1 x5_1 x27_6 a0_0 a0_1 a0_2 xA_1 = some (r1, r2)) ∧ Aside0 (kq ≤ k1) ∧ Aside0 (Kd.R (Kd.int .i64) 3 wc w0.heap.size (fun k_ => (P0_3_ k_ ∨ w.heap.size ≤ k_)) (.slice Ao3 xA_1.length co3) xA_1) ∧ Aside0 (wc.heap[gbB]? = some (.cells #[.int .i64 a0_0, .int .i64 a0_1, .int .i64 a0_2, (.slice Ao3 xA_1.length co3)] 32 (0, 0))) ∧ Aside0 (Kept w wc (fun k_ => P0_3_ k_)) ∧ Aside0 (Below w0.heap.size w0 wc))
    case first =>
     have H := HC7.out
     clear HC7
     by_cases c8 : a0_2 = 0
     ·rw [if_pos c8] at H
      exact absurd H (by simp)
     ·rw [if_neg c8] at H
      have c8b0 : (a0_2 == 0) = false := beq_eq_false_iff_ne.mpr c8
      have c8b1 : (a0_2 != 0) = true := bne_iff_ne.mpr c8
      (first | rw [c8b0] | (simp only [i64_w, i32_w]; rw [c8b0]) | skip)
      replace H := bS H
      obtain ⟨tI, A9, H⟩ := H
      by_cases c10 : tI = true
      ·subst c10
       replace H := iP H
       have H' := Aside0.mk H
       clear H
       obtain ⟨hcz11_0, hcz11_1, hcz11_2, hcz11_3, hfz11_0, hfz11_1, hfz11_2, hfz11_3⟩ := bc4 BKB.out
       go_wp2_with (first | ((with_reducible refine gate_callee (f := 40) rfl ?_); refine goesL_ (some 19) rfl rfl Try.func40 kr rfl #[.int .i64 a1, .int .i64 (Int.tmod x5_1 a0_2)] rfl p5 ?_; (with_reducible refine (spec_l2Has.calls a1 (Int.tmod x5_1 a0_2) true _ A9.out).mono ?_); rintro e w' ⟨rfl, ⟨nd, rfl⟩⟩; refine ⟨_, rfl, ?_⟩))
       go_meet
       case rel => exact ⟨_, (true), p7, H', ⟨by have := HK1.out; first | omega | exact Nat.le_refl _⟩, ⟨by (try simp only [hlA_1]); (with_reducible repeat (first | apply Kd.R_alloc | apply Kd.R_drewN | apply Kd.R_drew)); exact HO_A.out⟩, ⟨by (try simp only [hlA_1]); (with_reducible repeat (first | refine blk_drewN ?_ _ | refine blk_drew ?_ | refine blk_alloc ?_ _)); exact BKB.out⟩, ⟨pH⟩, ⟨pB⟩⟩
      ·replace c10 := Bool.eq_false_iff.mpr c10
       subst c10
       replace H := iN H
       by_cases c12 : 0 ≤ x5_1
       ·rw [if_pos c12] at H
        have c12b0 : decide (0 ≤ x5_1) = true := decide_eq_true c12
        clear c12
        by_cases c13 : x5_1 < (xA_1.length : Int)
        ·rw [if_pos c13] at H
         have c13b0 : decide (x5_1 < (xA_1.length : Int)) = true := decide_eq_true c13
         clear c13
         have H' := Aside0.mk H
         clear H
         obtain ⟨hcz14_0, hcz14_1, hcz14_2, hcz14_3, hfz14_0, hfz14_1, hfz14_2, hfz14_3⟩ := bc4 BKB.out
         go_wp2_with (first | ((with_reducible refine gate_callee (f := 40) rfl ?_); refine goesL_ (some 19) rfl rfl Try.func40 kr rfl #[.int .i64 a1, .int .i64 (Int.tmod x5_1 a0_2)] rfl p5 ?_; (with_reducible refine (spec_l2Has.calls a1 (Int.tmod x5_1 a0_2) false _ A9.out).mono ?_); rintro e w' ⟨rfl, ⟨nd, rfl⟩⟩; refine ⟨_, rfl, ?_⟩; have pE : 0 ≤ (x5_1 : Int) := oD; have qE : x5_1 < (xA_1.length : Int) := oD; obtain ⟨adE, eE, hxE_0⟩ := Kd.at_int (Kd.R_reads' HO_A.out).2.2 x5_1 pE qE; cases eE; replace pE := eq_true pE; replace qE := eq_true qE))
         go_meet
         case rel => exact ⟨_, (((rd xA_1 x5_1) == 0)), p7, H', ⟨by have := HK1.out; first | omega | exact Nat.le_refl _⟩, ⟨by (try simp only [hlA_1]); (with_reducible repeat (first | apply Kd.R_alloc | apply Kd.R_drewN | apply Kd.R_drew)); exact HO_A.out⟩, ⟨by (try simp only [hlA_1]); (with_reducible repeat (first | refine blk_drewN ?_ _ | refine blk_drew ?_ | refine blk_alloc ?_ _)); exact BKB.out⟩, ⟨pH⟩, ⟨pB⟩⟩
        ·rw [if_neg c13] at H
         exact absurd H (by simp)
       ·rw [if_neg c12] at H
        exact absurd H (by simp)
    case rest =>
     clear HC7
     try clear c6
     try clear c6b0
     try clear hcz5_0
     try clear hcz5_1
     try clear hcz5_2
     try clear hcz5_3
     try clear hfz5_0
     try clear hfz5_1
     try clear hfz5_2
     try clear hfz5_3
     obtain ⟨kq, x27_6, rfl, HA, HJ6, HO_A, BKB, HK, HB⟩ := hcut
     cases kq with
     | zero => exact absurd HA.out (by simp [spec_l26Next.j1])
     | succ kj6 =>
      have H := HA.out
      clear HA
      simp only [spec_l26Next.j1] at H
      by_cases c15 : x27_6 = true
      ·subst c15
       replace H := iP H
       have H' := Aside0.mk H
       clear H
       go_wp2
       (try simp only [← hlA_1])
       go_roundg kj6
       case measure => have := HK1.out; have := HJ6.out; omega
       case rel => exact ⟨(wrap64 (x5_1 - 1)), (xA_1), p7, H', ⟨by have := HK1.out; have := HJ6.out; omega⟩, ⟨by (try simp only [hlA_1]); (with_reducible repeat (first | apply Kd.R_alloc | apply Kd.R_drewN | apply Kd.R_drew)); exact HO_A.out⟩, ⟨by (try simp only [hlA_1]); (with_reducible repeat (first | refine blk_drewN ?_ _ | refine blk_drew ?_ | refine blk_alloc ?_ _)); exact BKB.out⟩, ⟨pH⟩, ⟨pB⟩⟩
      ·replace c15 := Bool.eq_false_iff.mpr c15
       subst c15
       replace H := iN H
       by_cases c16 : 0 ≤ x5_1
       ·rw [if_pos c16] at H
        have c16b0 : decide (0 ≤ x5_1) = true := decide_eq_true c16
        clear c16
        by_cases c17 : x5_1 < (xA_1.length : Int)
        ·rw [if_pos c17] at H
         have c17b0 : decide (x5_1 < (xA_1.length : Int)) = true := decide_eq_true c17
         clear c17
         by_cases c18 : (rd xA_1 x5_1) < (wrap64 (a0_0 - 1))
         ·rw [if_pos c18] at H
          have c18b0 : decide ((rd xA_1 x5_1) < (wrap64 (a0_0 - 1))) = true := decide_eq_true c18
          clear c18
          obtain ⟨yG, hyG⟩ : ∃ y_ : List Int, y_ = (xA_1.set (x5_1 : Int).toNat (wrap64 ((rd xA_1 x5_1) + 1))) := ⟨_, rfl⟩
          replace H : (some (true, yG)) = some (r1, r2) := yR hyG H
          have NyG := Aside0.mk hyG
          clear hyG
          simp only [Option.some.injEq, Prod.mk.injEq] at H
          obtain ⟨rfl, rfl⟩ := H
          try go_wp2
          replace HO_A := Aside0.mk (Kd.R_drew HO_A.out)
          replace BKB := Aside0.mk (blk_drew BKB.out)
          replace HK := Aside0.mk (Kept.drew HK.out)
          replace HB := Aside0.mk (below_drew1 HB.out)
          have pC : 0 ≤ (x5_1 : Int) := oD
          have qC : x5_1 < (xA_1.length : Int) := oD
          obtain ⟨adC, eC, hxC_0⟩ := Kd.at_int (Kd.R_reads' HO_A.out).2.2 x5_1 pC qC
          cases eC
          replace pC := eq_true pC
          replace qC := eq_true qC
          refine start_ (n := 9) (S := fun w' => w'.cell? ⟨gbB, 0, none⟩ = some (.int .i64 a0_0) ∧ w'.cell? ⟨gbB, 1, none⟩ = some (.int .i64 a0_1) ∧ w'.cell? ⟨gbB, 2, none⟩ = some (.int .i64 a0_2) ∧ w'.cell? ⟨gbB, 3, none⟩ = some (.slice (some adC) xA_1.length co3) ∧ w'.cell? (adC.add (x5_1).toNat) = some (.int .i64 (rd xA_1 x5_1))) (ds := []) #[false, false, false, false, false, false, false, false, false] kr rfl rfl ⟨(blk_cell BKB.out 0).trans rfl, (blk_cell BKB.out 1).trans rfl, (blk_cell BKB.out 2).trans rfl, (blk_cell BKB.out 3).trans rfl, hxC_0⟩ (fun hHeld => ?_); refine with_tabW spec_l26Next.tab5 spec_l26Next.bits5 (fun HT_ HW_ => ?_)
          generalize wc.drew = w20 at HO_A BKB HK HB hxC_0 hHeld ⊢
          refine pA 0 28 (any_of HT_.out kr) ?_
          refine pA 2 30 (any_of HT_.out kr) ?_
          refine pA 5 33 (any_of HT_.out kr) ?_
          refine tA5 1 29 (take_ofW HT_.out HW_.out kr) hHeld ?_
          refine pA 3 31 (any_of HT_.out kr) ?_
          refine tA5 4 32 (take_ofW HT_.out HW_.out kr) hHeld ?_
          refine tA5 6 34 (take_ofW HT_.out HW_.out kr) hHeld ?_
          refine pA 7 35 (any_of HT_.out kr) ?_
          refine pA 8 36 (any_of HT_.out kr) ?_
          refine done_ (done_of HT_.out kr) ?_
          try go_wp2
          replace HO_A := Aside0.mk (Kd.R_drew HO_A.out)
          replace BKB := Aside0.mk (blk_drew BKB.out)
          replace HK := Aside0.mk (Kept.drew HK.out)
          replace HB := Aside0.mk (below_drew1 HB.out)
          have pD : 0 ≤ (x5_1 : Int) := oD
          have qD : x5_1 < (xA_1.length : Int) := oD
          obtain ⟨adD, eD, hxD_0⟩ := Kd.at_int (Kd.R_reads' HO_A.out).2.2 x5_1 pD qD
          obtain rfl : adC = adD := (by injection eD)
          replace pD := eq_true pD
          replace qD := eq_true qD
          have p19 : 0 ≤ (x5_1 : Int) := oD
          have q19 : (x5_1 : Int) < ((xA_1.length : Int) : Int) := oD
          obtain ⟨go19, co19, eo19, gb19, gl19, cl19, HG19⟩ := Kd.R_form HO_A.out (by omega)
          (first | cases eo19 | (injection eo19 with ea_ en_ ec_; (first | subst ea_ | (injection ea_ with ea_; subst ea_)); subst ec_; clear en_))
          have GB19 := Aside0.mk gb19
          have GG19 := Aside0.mk HG19
          clear gb19 gl19 HG19
          have HMgo19 := Aside0.mk (show (P0_3_ go19 ∨ w.heap.size ≤ go19) from (HO_A.out.1 _ rfl))
          (first | simp only [add_plain] at hxC_0 | skip)
          (first | simp only [add_plain] at hxD_0 | skip)
          obtain ⟨hx19_0, hf19_0⟩ := Kd.R_celln 0 HO_A.out (x5_1 : Int) p19 q19
          replace p19 := eq_true p19
          replace q19 := eq_true q19
          have HP22 := Kd.R_putn HO_A.out (x5_1 : Int) (wrap64 ((rd xA_1 x5_1) + 1))
          rw [← NyG.out] at HP22
          have HQ22 := Aside0.mk HP22
          clear HP22
          refine start_ (n := 11) (S := fun w' => w'.cell? ⟨gbB, 0, none⟩ = some (.int .i64 a0_0) ∧ w'.cell? ⟨gbB, 1, none⟩ = some (.int .i64 a0_1) ∧ w'.cell? ⟨gbB, 2, none⟩ = some (.int .i64 a0_2) ∧ w'.cell? ⟨gbB, 3, none⟩ = some (.slice (some ⟨go19, 0, none⟩) xA_1.length co3) ∧ w'.cell? ⟨go19, (x5_1).toNat, none⟩ = some (.int .i64 (rd xA_1 x5_1))) (ds := [10]) #[false, false, false, false, false, false, false, false, false, false, false] kr rfl rfl ⟨(blk_cell BKB.out 0).trans rfl, (blk_cell BKB.out 1).trans rfl, (blk_cell BKB.out 2).trans rfl, (blk_cell BKB.out 3).trans rfl, hxD_0⟩ (fun hHeld => ?_); refine with_tabW spec_l26Next.tab6 spec_l26Next.bits6 (fun HT_ HW_ => ?_)
          generalize w20.drew = w21 at HO_A BKB HK HB GG19 HQ22 hf19_0 hx19_0 hxC_0 hxD_0 hHeld ⊢
          refine pA 0 37 (any_of HT_.out kr) ?_
          refine pA 2 39 (any_of HT_.out kr) ?_
          refine pA 3 40 (any_of HT_.out kr) ?_
          refine pA 5 42 (any_of HT_.out kr) ?_
          refine tA5 1 38 (take_ofW HT_.out HW_.out kr) hHeld ?_
          refine tA5 4 41 (take_ofW HT_.out HW_.out kr) hHeld ?_
          refine pA 6 43 (any_of HT_.out kr) ?_
          refine tA5 7 44 (take_ofW HT_.out HW_.out kr) hHeld ?_
          refine pA 8 45 (any_of HT_.out kr) ?_
          refine pA 9 46 (any_of HT_.out kr) ?_
          refine last_ (i := 10) (N := none) #[true, true, true, true, true, true, true, true, true, true, true] rfl rfl (one_of HT_.out kr) (by decide) (fun K hK => ?_)
          refine skip_ (w1 := ?_) (by rfl) rfl ?_ ?_
          rotate_left
          ·go_simp
           rfl
          refine hK.out _ _ ?_
          clear hK K
          refine done_ (done_of HT_.out kr) ?_
          try go_wp2
          go_ret
          exact ⟨p8, (by first | exact (pR HQ22.out) | (simp only [hlA_1]; exact (pR HQ22.out))), by repeat (first | (with_reducible first | exact HB.out | apply below_alloc | apply pw_below_drewN | apply below_drew1 | refine below_set ?_ GB19.out | refine below_set ?_ GEB.out) | exact HB.out), by repeat (first | (with_reducible first | exact HK.out | apply Kept.alloc | apply Kept.drewN | apply Kept.drew | refine Kept.setCell ?_ HMgo19.out _ | refine Kept.setCell ?_ (.inr GWB.out) _) | exact HK.out)⟩
         ·rw [if_neg c18] at H
          have c18b0 : decide ((rd xA_1 x5_1) < (wrap64 (a0_0 - 1))) = false := decide_eq_false c18
          clear c18
          obtain ⟨yF, hyF⟩ : ∃ y_ : List Int, y_ = (xA_1.set (x5_1 : Int).toNat 1) := ⟨_, rfl⟩
          replace H : (spec_l26Next.l0 kj6 a1 (wrap64 (x5_1 - 1)) a0_0 a0_1 a0_2 yF) = some (r1, r2) := yR hyF H
          have NyF := Aside0.mk hyF
          clear hyF
          have H' := Aside0.mk H
          clear H
          try go_wp2
          replace HO_A := Aside0.mk (Kd.R_drew HO_A.out)
          replace BKB := Aside0.mk (blk_drew BKB.out)
          replace HK := Aside0.mk (Kept.drew HK.out)
          replace HB := Aside0.mk (below_drew1 HB.out)
          have pC : 0 ≤ (x5_1 : Int) := oD
          have qC : x5_1 < (xA_1.length : Int) := oD
          obtain ⟨adC, eC, hxC_0⟩ := Kd.at_int (Kd.R_reads' HO_A.out).2.2 x5_1 pC qC
          cases eC
          replace pC := eq_true pC
          replace qC := eq_true qC
          refine start_ (n := 9) (S := fun w' => w'.cell? ⟨gbB, 0, none⟩ = some (.int .i64 a0_0) ∧ w'.cell? ⟨gbB, 1, none⟩ = some (.int .i64 a0_1) ∧ w'.cell? ⟨gbB, 2, none⟩ = some (.int .i64 a0_2) ∧ w'.cell? ⟨gbB, 3, none⟩ = some (.slice (some adC) xA_1.length co3) ∧ w'.cell? (adC.add (x5_1).toNat) = some (.int .i64 (rd xA_1 x5_1))) (ds := []) #[false, false, false, false, false, false, false, false, false] kr rfl rfl ⟨(blk_cell BKB.out 0).trans rfl, (blk_cell BKB.out 1).trans rfl, (blk_cell BKB.out 2).trans rfl, (blk_cell BKB.out 3).trans rfl, hxC_0⟩ (fun hHeld => ?_); refine with_tabW spec_l26Next.tab5 spec_l26Next.bits5 (fun HT_ HW_ => ?_)
          generalize wc.drew = w24 at HO_A BKB HK HB hxC_0 hHeld ⊢
          refine pA 0 28 (any_of HT_.out kr) ?_
          refine pA 2 30 (any_of HT_.out kr) ?_
          refine pA 5 33 (any_of HT_.out kr) ?_
          refine tA5 1 29 (take_ofW HT_.out HW_.out kr) hHeld ?_
          refine pA 3 31 (any_of HT_.out kr) ?_
          refine tA5 4 32 (take_ofW HT_.out HW_.out kr) hHeld ?_
          refine tA5 6 34 (take_ofW HT_.out HW_.out kr) hHeld ?_
          refine pA 7 35 (any_of HT_.out kr) ?_
          refine pA 8 36 (any_of HT_.out kr) ?_
          refine done_ (done_of HT_.out kr) ?_
          obtain ⟨hcz25_0, hcz25_1, hcz25_2, hcz25_3, hfz25_0, hfz25_1, hfz25_2, hfz25_3⟩ := bc4 BKB.out
          have p23 : 0 ≤ (x5_1 : Int) := oD
          have q23 : (x5_1 : Int) < ((xA_1.length : Int) : Int) := oD
          obtain ⟨go23, co23, eo23, gb23, gl23, cl23, HG23⟩ := Kd.R_form HO_A.out (by omega)
          (first | cases eo23 | (injection eo23 with ea_ en_ ec_; (first | subst ea_ | (injection ea_ with ea_; subst ea_)); subst ec_; clear en_))
          have GB23 := Aside0.mk gb23
          have GG23 := Aside0.mk HG23
          clear gb23 gl23 HG23
          have HMgo23 := Aside0.mk (show (P0_3_ go23 ∨ w.heap.size ≤ go23) from (HO_A.out.1 _ rfl))
          (first | simp only [add_plain] at hxC_0 | skip)
          obtain ⟨hx23_0, hf23_0⟩ := Kd.R_celln 0 HO_A.out (x5_1 : Int) p23 q23
          replace p23 := eq_true p23
          replace q23 := eq_true q23
          obtain ⟨hy26_, hz26_⟩ := Kd.R_celln 0 HO_A.out (x5_1 : Int) (oD) (oD)
          have HP26 := Kd.R_putg HO_A.out (x5_1 : Int) 1
          try go_wp2_with (first | ((with_reducible refine gate_store (t := 3) (p := 50) rfl ?_); refine store_event (t := 3) (p := 50) (v := ?vo_w27) (w1 := (w24.setCell ⟨go23, (x5_1 : Int).toNat, none⟩ (.int .i64 1))) ?hg ?ho ?hn ?hr ?_; (case ho => rfl); (case hg => rfl); (case hn => rfl); (case hr => first | (go_simp; done) | (go_simp; rfl)); intro w27 hw; have hg : w24.grownBy w27 (some go23) := (by rw [hw]; exact HP26.2); have hp_ : Kd.R (Kd.int .i64) 3 w27 w0.heap.size (fun k_ => (P0_3_ k_ ∨ w.heap.size ≤ k_)) (.slice (some ⟨go23, 0, none⟩) xA_1.length co3) yF := (by rw [hw, NyF.out]; exact HP26.1); clear HP26; replace BKB := Aside0.mk (blk_grown (g := gbB) (o := .cells #[.int .i64 a0_0, .int .i64 a0_1, .int .i64 a0_2, .slice (some ⟨go23, 0, none⟩) xA_1.length co3] 32 (0, 0)) (pK BKB.out) hg (Kd.R_ne HO_A.out BKB.out (by decide))); replace HB := Aside0.mk ((by rw [hw]; exact below_set (HB.out) GB23.out : Below w0.heap.size w0 w27)); replace HK := Aside0.mk (Kept.of_grown (S := (fun k_ => P0_3_ k_)) hg pH (fun k_ e_ => (HO_A.out.1 k_ e_))); replace HO_A := Aside0.mk (hp_); clear hg hw hp_))
          (try simp only [← hlA_1])
          go_roundg kj6
          case measure => have := HK1.out; have := HJ6.out; omega
          case rel => exact ⟨(wrap64 (x5_1 - 1)), (yF), p7, H', ⟨by have := HK1.out; have := HJ6.out; omega⟩, ⟨by (try simp only [hlA_1]); (with_reducible repeat (first | apply Kd.R_alloc | apply Kd.R_drewN | apply Kd.R_drew)); exact HO_A.out⟩, ⟨by (try simp only [hlA_1]); (with_reducible repeat (first | refine blk_drewN ?_ _ | refine blk_drew ?_ | refine blk_alloc ?_ _)); exact BKB.out⟩, ⟨pH⟩, ⟨pB⟩⟩
        ·rw [if_neg c17] at H
         exact absurd H (by simp)
       ·rw [if_neg c16] at H
        exact absurd H (by simp)
   ·rw [if_neg c6] at H
    have c6b0 : decide (0 ≤ x5_1) = false := decide_eq_false c6
    clear c6
    simp only [Option.some.injEq, Prod.mk.injEq] at H
    obtain ⟨rfl, rfl⟩ := H
    go_wp2
    go_ret
    exact ⟨p8, (by first | exact (pR HO_A.out) | (simp only [hlA_1]; exact (pR HO_A.out))), pB, pH⟩
mutual
def spec_CircuitOf.j0 : Nat → Int → Int → Bool → Int → List Int → Option (Int)
 | 0, _, _, _, _, _ => none
 | k + 1, x1, x2, x31, xA, xB => if x31 = true then (some 0) else (if 0 ≤ (IntKind.u64.wrap (x2)) then (spec_CircuitOf.l0 k x1 x2 (shl .i64 1 (IntKind.u64.wrap (x2))) 0 xA xB) else (none))
def spec_CircuitOf.l0 : Nat → Int → Int → Int → Int → Int → List Int → Option (Int)
 | 0, _, _, _, _, _, _ => none
 | k + 1, x1, x2, x7, x8, xA, xB => if x8 < xA then ((spec_l2Has.f x1 x8).bind fun tC => (if tC = true then (if 0 ≤ (IntKind.u64.wrap (x8)) then (if 0 ≤ (IntKind.u64.wrap (x2)) then ((spec_HasSet.f k xB (wrap64 ((wrap64 (x1 - (shl .i64 1 (IntKind.u64.wrap (x8))))) + (shl .i64 1 (IntKind.u64.wrap (x2)))))).bind fun tD => (if tD = true then (spec_CircuitOf.l0 k x1 x2 (wrap64 (x7 + (shl .i64 1 (IntKind.u64.wrap (x8))))) (wrap64 (x8 + 1)) xA xB) else (spec_CircuitOf.l0 k x1 x2 x7 (wrap64 (x8 + 1)) xA xB))) else (none)) else (none)) else (spec_CircuitOf.l0 k x1 x2 x7 (wrap64 (x8 + 1)) xA xB))) else (some x7)
end
def spec_CircuitOf.f (k : Nat) (a0_0 : Int) (l0_1 : List Int) (a1 : Int) (a2 : Int) : Option (Int) := (spec_IsMatroid.f k a0_0 l0_1).bind fun tA => (if tA = true then ((spec_HasSet.f k l0_1 a1).bind fun tB => (if tB = true then ((spec_l1In.f a2 0 (wrap64 (a0_0 - 1))).bind fun tC => (if tC = true then ((spec_l2Has.f a1 a2).bind fun tD => (spec_CircuitOf.j0 k a1 a2 tD a0_0 l0_1)) else (spec_CircuitOf.j0 k a1 a2 true a0_0 l0_1))) else (spec_CircuitOf.j0 k a1 a2 true a0_0 l0_1))) else (spec_CircuitOf.j0 k a1 a2 true a0_0 l0_1))
set_option maxHeartbeats 8000000 in
set_option maxRecDepth 100000 in
theorem spec_CircuitOf.calls (k : Nat) (a0_0 : Int) (A0_1 : Option Addr) (c0_1 : Nat) (l0_1 : List Int) (a1 : Int) (a2 : Int) (r : Int) (w : World) (hr0_1 : Kd.C (Kd.int .i64) w A0_1 l0_1.length l0_1) (hc0_1 : l0_1.length ≤ c0_1) (h : spec_CircuitOf.f k a0_0 l0_1 a1 a2 = some r) :
  Calls Try.prog 42 #[.agg #[.int .i64 a0_0, .slice A0_1 l0_1.length c0_1], .int .i64 a1, .int .i64 a2] w fun e w' => e = .returned (.int .i64 r) ∧ Below w.heap.size w w' := by
 have hu27 := Try.underlying27
 have HR0_1 := Aside0.mk hr0_1
 have HC0_1 := Aside0.mk hc0_1
 clear hr0_1 hc0_1
 have HB := Aside0.mk (Below.refl w.heap.size w)
 have H : ((spec_IsMatroid.f k a0_0 l0_1).bind fun tE => (if tE = true then ((spec_HasSet.f k l0_1 a1).bind fun tF => (if tF = true then ((spec_l1In.f a2 0 (wrap64 (a0_0 - 1))).bind fun tG => (if tG = true then ((spec_l2Has.f a1 a2).bind fun tD => (spec_CircuitOf.j0 k a1 a2 tD a0_0 l0_1)) else (spec_CircuitOf.j0 k a1 a2 true a0_0 l0_1))) else (spec_CircuitOf.j0 k a1 a2 true a0_0 l0_1))) else (spec_CircuitOf.j0 k a1 a2 true a0_0 l0_1))) = some r := h
 clear h
 have HC4 := Aside0.mk H
 clear H
 go_enter Try.func42, Try.ntmps42
 go_upto_region 1 with (first | (refine bE 3 #[.int .i64 a0_0, .slice A0_1 l0_1.length c0_1] 27 ?_; intro gbA hg w5 hbox hb; have BKA := Aside0.mk hbox; have GWA := aZ w hg; have GEA := aZ w hg; replace HB := aH hb; clear hb hbox hg))
 (try simp only [Act.put, List.setIfInBounds_toArray, List.set_cons_zero, List.set_cons_succ])
 go_cut [31] (fun v31 wc => ∃ (kq : Nat) (x31_3 : Bool), v31 = .bool x31_3 ∧ Aside0 (spec_CircuitOf.j0 kq a1 a2 x31_3 a0_0 l0_1 = some r) ∧ Aside0 (kq ≤ k) ∧ Aside0 (wc.heap[gbA]? = some (.cells #[.int .i64 a0_0, (.slice A0_1 l0_1.length c0_1)] 27 (0, 0))) ∧ Aside0 (Below w.heap.size w wc))
 case first =>
  have H := HC4.out
  clear HC4
  replace H := bS H
  obtain ⟨tE, A6, H⟩ := H
  by_cases c7 : tE = true
  ·subst c7
   replace H := iP H
   replace H := bS H
   obtain ⟨tF, A8, H⟩ := H
   by_cases c9 : tF = true
   ·subst c9
    replace H := iP H
    replace H := bS H
    obtain ⟨tG, A10, H⟩ := H
    by_cases c11 : tG = true
    ·subst c11
     replace H := iP H
     replace H := bS H
     obtain ⟨tD, A12, H⟩ := H
     have H' := Aside0.mk H
     clear H
     obtain ⟨hcz13_0, hcz13_1, hfz13_0, hfz13_1⟩ := bc2 BKA.out
     go_wp2_with (first | ((with_reducible refine gate_callee (f := 25) rfl ?_); refine goesL_ (some 10) rfl rfl Try.func25 kr rfl #[.agg #[.int .i64 a0_0, .slice A0_1 l0_1.length c0_1]] rfl p5 ?_; (with_reducible refine (spec_IsMatroid.calls k a0_0 _ _ l0_1 true _ ?side1 ?side2 A6.out).mono ?_); (case side1 => exact pC (Kd.C_below HR0_1.out HB.out)); (case side2 => exact HC0_1.out); rintro e w14 ⟨rfl, hb⟩; refine ⟨_, rfl, ?_⟩; replace BKA := aB BKA hb; replace HB := aH hb; (try clear hb); obtain ⟨hcz15_0, hcz15_1, hfz15_0, hfz15_1⟩ := bc2 BKA.out) | (go_at_call 55; (with_reducible refine (spec_HasSet.calls k _ _ l0_1 a1 true _ ?side1 ?side2 A8.out).mono ?_); (case side1 => exact pC (Kd.C_below HR0_1.out HB.out)); (case side2 => exact HC0_1.out); rintro e w' ⟨rfl, ⟨nd, rfl⟩⟩) | (go_at_call 53; (with_reducible refine (spec_l1In.calls a2 0 (wrap64 (a0_0 - 1)) true _ A10.out).mono ?_); rintro e w' ⟨rfl, ⟨nd, rfl⟩⟩) | (go_at_call 40; (with_reducible refine (spec_l2Has.calls a1 a2 tD _ A12.out).mono ?_); rintro e w' ⟨rfl, ⟨nd, rfl⟩⟩))
     go_meet
     case rel => exact ⟨_, (tD), p7, H', ⟨by first | omega | exact Nat.le_refl _⟩, ⟨pK BKA.out⟩, ⟨pB⟩⟩
    ·replace c11 := Bool.eq_false_iff.mpr c11
     subst c11
     replace H := iN H
     have H' := Aside0.mk H
     clear H
     obtain ⟨hcz16_0, hcz16_1, hfz16_0, hfz16_1⟩ := bc2 BKA.out
     go_wp2_with (first | ((with_reducible refine gate_callee (f := 25) rfl ?_); refine goesL_ (some 10) rfl rfl Try.func25 kr rfl #[.agg #[.int .i64 a0_0, .slice A0_1 l0_1.length c0_1]] rfl p5 ?_; (with_reducible refine (spec_IsMatroid.calls k a0_0 _ _ l0_1 true _ ?side1 ?side2 A6.out).mono ?_); (case side1 => exact pC (Kd.C_below HR0_1.out HB.out)); (case side2 => exact HC0_1.out); rintro e w17 ⟨rfl, hb⟩; refine ⟨_, rfl, ?_⟩; replace BKA := aB BKA hb; replace HB := aH hb; (try clear hb); obtain ⟨hcz18_0, hcz18_1, hfz18_0, hfz18_1⟩ := bc2 BKA.out) | (go_at_call 55; (with_reducible refine (spec_HasSet.calls k _ _ l0_1 a1 true _ ?side1 ?side2 A8.out).mono ?_); (case side1 => exact pC (Kd.C_below HR0_1.out HB.out)); (case side2 => exact HC0_1.out); rintro e w' ⟨rfl, ⟨nd, rfl⟩⟩) | (go_at_call 53; (with_reducible refine (spec_l1In.calls a2 0 (wrap64 (a0_0 - 1)) false _ A10.out).mono ?_); rintro e w' ⟨rfl, ⟨nd, rfl⟩⟩))
     go_meet
     case rel => exact ⟨_, (true), p7, H', ⟨by first | omega | exact Nat.le_refl _⟩, ⟨pK BKA.out⟩, ⟨pB⟩⟩
   ·replace c9 := Bool.eq_false_iff.mpr c9
    subst c9
    replace H := iN H
    have H' := Aside0.mk H
    clear H
    obtain ⟨hcz19_0, hcz19_1, hfz19_0, hfz19_1⟩ := bc2 BKA.out
    go_wp2_with (first | ((with_reducible refine gate_callee (f := 25) rfl ?_); refine goesL_ (some 10) rfl rfl Try.func25 kr rfl #[.agg #[.int .i64 a0_0, .slice A0_1 l0_1.length c0_1]] rfl p5 ?_; (with_reducible refine (spec_IsMatroid.calls k a0_0 _ _ l0_1 true _ ?side1 ?side2 A6.out).mono ?_); (case side1 => exact pC (Kd.C_below HR0_1.out HB.out)); (case side2 => exact HC0_1.out); rintro e w20 ⟨rfl, hb⟩; refine ⟨_, rfl, ?_⟩; replace BKA := aB BKA hb; replace HB := aH hb; (try clear hb); obtain ⟨hcz21_0, hcz21_1, hfz21_0, hfz21_1⟩ := bc2 BKA.out) | (go_at_call 55; (with_reducible refine (spec_HasSet.calls k _ _ l0_1 a1 false _ ?side1 ?side2 A8.out).mono ?_); (case side1 => exact pC (Kd.C_below HR0_1.out HB.out)); (case side2 => exact HC0_1.out); rintro e w' ⟨rfl, ⟨nd, rfl⟩⟩))
    go_meet
    case rel => exact ⟨_, (true), p7, H', ⟨by first | omega | exact Nat.le_refl _⟩, ⟨pK BKA.out⟩, ⟨pB⟩⟩
  ·replace c7 := Bool.eq_false_iff.mpr c7
   subst c7
   replace H := iN H
   have H' := Aside0.mk H
   clear H
   obtain ⟨hcz22_0, hcz22_1, hfz22_0, hfz22_1⟩ := bc2 BKA.out
   go_wp2_with (first | ((with_reducible refine gate_callee (f := 25) rfl ?_); refine goesL_ (some 10) rfl rfl Try.func25 kr rfl #[.agg #[.int .i64 a0_0, .slice A0_1 l0_1.length c0_1]] rfl p5 ?_; (with_reducible refine (spec_IsMatroid.calls k a0_0 _ _ l0_1 false _ ?side1 ?side2 A6.out).mono ?_); (case side1 => exact pC (Kd.C_below HR0_1.out HB.out)); (case side2 => exact HC0_1.out); rintro e w23 ⟨rfl, hb⟩; refine ⟨_, rfl, ?_⟩; replace BKA := aB BKA hb; replace HB := aH hb; (try clear hb)))
   go_meet
   case rel => exact ⟨_, (true), p7, H', ⟨by first | omega | exact Nat.le_refl _⟩, ⟨pK BKA.out⟩, ⟨pB⟩⟩
 case rest =>
  clear HC4
  obtain ⟨kq, x31_3, rfl, HA, HJ3, BKA, HB⟩ := hcut
  cases kq with
  | zero => exact absurd HA.out (by simp [spec_CircuitOf.j0])
  | succ kj3 =>
   have H := HA.out
   clear HA
   simp only [spec_CircuitOf.j0] at H
   by_cases c24 : x31_3 = true
   ·subst c24
    replace H := iP H
    obtain rfl := Option.some.inj H
    go_wp2
    go_ret
    exact ⟨p8, pB⟩
   ·replace c24 := Bool.eq_false_iff.mpr c24
    subst c24
    replace H := iN H
    obtain ⟨ji25, hji25⟩ : ∃ j_ : Int, (IntKind.u64.wrap (a2)) = j_ := ⟨_, rfl⟩
    replace H : (if 0 ≤ (ji25) then (spec_CircuitOf.l0 kj3 a1 a2 (shl .i64 1 (ji25)) 0 a0_0 l0_1) else (none)) = some r := jR hji25 H
    by_cases c26 : 0 ≤ (ji25)
    ·rw [if_pos c26] at H
     have c26b0 := eq_true c26
     have c26b1 : decide (0 ≤ (ji25)) = true := decide_eq_true c26
     clear c26
     obtain ⟨ji27, hji27⟩ : ∃ j_ : Int, (shl .i64 1 (ji25)) = j_ := ⟨_, rfl⟩
     replace H : (spec_CircuitOf.l0 kj3 a1 a2 ji27 0 a0_0 l0_1) = some r := jR hji27 H
     have hji27_ : (IntKind.i64.wrap (1 * 2 ^ min (ji25).toNat 64)) = ji27 := hji27
     have hji27z : (ji25) ≤ 64 → (IntKind.i64.wrap (1 * 2 ^ (ji25).toNat)) = ji27 := shl_small hji27
     have hji27u : (IntKind.i64.wrap (2 ^ min (ji25).toNat 64)) = ji27 := by have h_ := hji27_; rw [Int.one_mul] at h_; exact h_
     have hji27v : (ji25) ≤ 64 → (IntKind.i64.wrap (2 ^ (ji25).toNat)) = ji27 := fun hle_ => by have h_ := hji27z hle_; rw [Int.one_mul] at h_; exact h_
     have hji27y : (wrap64 (1 * 2 ^ min (ji25).toNat 64)) = ji27 := (i64_w _).symm.trans hji27_
     have hji27x : (ji25) ≤ 64 → (wrap64 (1 * 2 ^ (ji25).toNat)) = ji27 := fun h_ => (i64_w _).symm.trans (hji27z h_)
     have H' := Aside0.mk H
     clear H
     go_wp2
     go_loopg [7, 8] kj3 (fun kq v7 v8 w' => ∃ (x7_2 : Int) (x8_2 : Int), v7 = .int .i64 x7_2 ∧ v8 = .int .i64 x8_2 ∧ Aside0 (spec_CircuitOf.l0 kq a1 a2 x7_2 x8_2 a0_0 l0_1 = some r) ∧ Aside0 (kq ≤ kj3) ∧ Aside0 (w'.heap[gbA]? = some (.cells #[.int .i64 a0_0, (.slice A0_1 l0_1.length c0_1)] 27 (0, 0))) ∧ Aside0 (Below w.heap.size w w'))
     case atStart => exact ⟨(ji27), (0), (by first | rfl | (simp; done) | (simp only [← hji27] <;> (first | rfl | simp)) | (simp [*]; done)), p7, H', ⟨Nat.le_refl _⟩, ⟨pK BKA.out⟩, ⟨pB⟩⟩
     case round =>
      clear H'
      try clear c24
      try clear c26
      try clear c26b0
      try clear c26b1
      obtain ⟨x7_2, x8_2, rfl, rfl, HA, HK2, BKA, HB⟩ := hrel
      cases gk with
      | zero => exact absurd HA.out (by simp [spec_CircuitOf.l0])
      | succ k2 =>
       have H := HA.out
       clear HA
       simp only [spec_CircuitOf.l0] at H
       by_cases c28 : x8_2 < a0_0
       ·rw [if_pos c28] at H
        have c28b0 : decide (x8_2 < a0_0) = true := decide_eq_true c28
        clear c28
        replace H := bS H
        obtain ⟨tI, A29, H⟩ := H
        by_cases c30 : tI = true
        ·subst c30
         replace H := iP H
         obtain ⟨ji31, hji31⟩ : ∃ j_ : Int, (IntKind.u64.wrap (x8_2)) = j_ := ⟨_, rfl⟩
         replace H : (if 0 ≤ (ji31) then (if 0 ≤ (IntKind.u64.wrap (a2)) then ((spec_HasSet.f k2 l0_1 (wrap64 ((wrap64 (a1 - (shl .i64 1 (ji31)))) + (shl .i64 1 (IntKind.u64.wrap (a2)))))).bind fun tB => (if tB = true then (spec_CircuitOf.l0 k2 a1 a2 (wrap64 (x7_2 + (shl .i64 1 (ji31)))) (wrap64 (x8_2 + 1)) a0_0 l0_1) else (spec_CircuitOf.l0 k2 a1 a2 x7_2 (wrap64 (x8_2 + 1)) a0_0 l0_1))) else (none)) else (none)) = some r := jR hji31 H
         (try rw [hji31] at A29)
         by_cases c32 : 0 ≤ (ji31)
         ·rw [if_pos c32] at H
          have c32b0 := eq_true c32
          have c32b1 : decide (0 ≤ (ji31)) = true := decide_eq_true c32
          clear c32
          obtain ⟨ji33, hji33⟩ : ∃ j_ : Int, (shl .i64 1 (ji31)) = j_ := ⟨_, rfl⟩
          replace H : (if 0 ≤ (IntKind.u64.wrap (a2)) then ((spec_HasSet.f k2 l0_1 (wrap64 ((wrap64 (a1 - (ji33))) + (shl .i64 1 (IntKind.u64.wrap (a2)))))).bind fun tB => (if tB = true then (spec_CircuitOf.l0 k2 a1 a2 (wrap64 (x7_2 + (ji33))) (wrap64 (x8_2 + 1)) a0_0 l0_1) else (spec_CircuitOf.l0 k2 a1 a2 x7_2 (wrap64 (x8_2 + 1)) a0_0 l0_1))) else (none)) = some r := jR hji33 H
          (try rw [hji33] at A29)
          have hji33_ : (IntKind.i64.wrap (1 * 2 ^ min (ji31).toNat 64)) = ji33 := hji33
          have hji33z : (ji31) ≤ 64 → (IntKind.i64.wrap (1 * 2 ^ (ji31).toNat)) = ji33 := shl_small hji33
          have hji33u : (IntKind.i64.wrap (2 ^ min (ji31).toNat 64)) = ji33 := by have h_ := hji33_; rw [Int.one_mul] at h_; exact h_
          have hji33v : (ji31) ≤ 64 → (IntKind.i64.wrap (2 ^ (ji31).toNat)) = ji33 := fun hle_ => by have h_ := hji33z hle_; rw [Int.one_mul] at h_; exact h_
          have hji33y : (wrap64 (1 * 2 ^ min (ji31).toNat 64)) = ji33 := (i64_w _).symm.trans hji33_
          have hji33x : (ji31) ≤ 64 → (wrap64 (1 * 2 ^ (ji31).toNat)) = ji33 := fun h_ => (i64_w _).symm.trans (hji33z h_)
          obtain ⟨ji34, hji34⟩ : ∃ j_ : Int, (IntKind.u64.wrap (a2)) = j_ := ⟨_, rfl⟩
          (try obtain rfl : ji34 = ji25 := hji34.symm.trans hji25)
          replace H : (if 0 ≤ (ji34) then ((spec_HasSet.f k2 l0_1 (wrap64 ((wrap64 (a1 - (ji33))) + (shl .i64 1 (ji34))))).bind fun tB => (if tB = true then (spec_CircuitOf.l0 k2 a1 a2 (wrap64 (x7_2 + (ji33))) (wrap64 (x8_2 + 1)) a0_0 l0_1) else (spec_CircuitOf.l0 k2 a1 a2 x7_2 (wrap64 (x8_2 + 1)) a0_0 l0_1))) else (none)) = some r := jR hji34 H
          (try rw [hji34] at A29)
          by_cases c35 : 0 ≤ (ji34)
          ·rw [if_pos c35] at H
           have c35b0 := eq_true c35
           have c35b1 : decide (0 ≤ (ji34)) = true := decide_eq_true c35
           clear c35
           obtain ⟨ji36, hji36⟩ : ∃ j_ : Int, (shl .i64 1 (ji34)) = j_ := ⟨_, rfl⟩
           (try obtain rfl : ji36 = ji27 := hji36.symm.trans hji27)
           replace H : ((spec_HasSet.f k2 l0_1 (wrap64 ((wrap64 (a1 - (ji33))) + (ji36)))).bind fun tB => (if tB = true then (spec_CircuitOf.l0 k2 a1 a2 (wrap64 (x7_2 + (ji33))) (wrap64 (x8_2 + 1)) a0_0 l0_1) else (spec_CircuitOf.l0 k2 a1 a2 x7_2 (wrap64 (x8_2 + 1)) a0_0 l0_1))) = some r := jR hji36 H
           (try rw [hji36] at A29)
           have hji36_ : (IntKind.i64.wrap (1 * 2 ^ min (ji34).toNat 64)) = ji36 := hji36
           have hji36z : (ji34) ≤ 64 → (IntKind.i64.wrap (1 * 2 ^ (ji34).toNat)) = ji36 := shl_small hji36
           have hji36u : (IntKind.i64.wrap (2 ^ min (ji34).toNat 64)) = ji36 := by have h_ := hji36_; rw [Int.one_mul] at h_; exact h_
           have hji36v : (ji34) ≤ 64 → (IntKind.i64.wrap (2 ^ (ji34).toNat)) = ji36 := fun hle_ => by have h_ := hji36z hle_; rw [Int.one_mul] at h_; exact h_
           have hji36y : (wrap64 (1 * 2 ^ min (ji34).toNat 64)) = ji36 := (i64_w _).symm.trans hji36_
           have hji36x : (ji34) ≤ 64 → (wrap64 (1 * 2 ^ (ji34).toNat)) = ji36 := fun h_ => (i64_w _).symm.trans (hji36z h_)
           replace H := bS H
           obtain ⟨tB, A37, H⟩ := H
           by_cases c38 : tB = true
           ·subst c38
            replace H := iP H
            have c39b0 := eq_true (oD : 0 ≤ (ji31))
            have H' := Aside0.mk H
            clear H
            obtain ⟨hcz41_0, hcz41_1, hfz41_0, hfz41_1⟩ := bc2 BKA.out
            go_wp2_with (first | ((with_reducible refine gate_callee (f := 40) rfl ?_); refine goesL_ (some 43) rfl rfl Try.func40 kr rfl #[.int .i64 a1, .int .i64 x8_2] rfl p5 ?_; (with_reducible refine (spec_l2Has.calls a1 x8_2 true _ A29.out).mono ?_); rintro e w' ⟨rfl, ⟨nd, rfl⟩⟩; refine ⟨_, rfl, ?_⟩) | (go_at_call 55; (with_reducible refine (spec_HasSet.calls k2 _ _ l0_1 (wrap64 ((wrap64 (a1 - (ji33))) + (ji36))) true _ ?side1 ?side2 A37.out).mono ?_); (case side1 => repeat (first | exact (Kd.C_below HR0_1.out pB) | (with_reducible refine Kd.C_alloc ?_ _) | (with_reducible refine Kd.C_drewN ?_ _) | (with_reducible refine Kd.C_drew ?_))); (case side2 => exact HC0_1.out); rintro e w' ⟨rfl, ⟨nd, rfl⟩⟩))
            go_roundg k2
            case measure => have := HJ3.out; have := HK2.out; omega
            case rel => exact ⟨(wrap64 (x7_2 + (ji33))), (wrap64 (x8_2 + 1)), (by first | rfl | (simp; done) | (simp only [← hji33] <;> (first | rfl | simp)) | (simp [*]; done)), p7, H', ⟨by have := HJ3.out; have := HK2.out; omega⟩, ⟨pK BKA.out⟩, ⟨pB⟩⟩
           ·replace c38 := Bool.eq_false_iff.mpr c38
            subst c38
            replace H := iN H
            have H' := Aside0.mk H
            clear H
            obtain ⟨hcz42_0, hcz42_1, hfz42_0, hfz42_1⟩ := bc2 BKA.out
            go_wp2_with (first | ((with_reducible refine gate_callee (f := 40) rfl ?_); refine goesL_ (some 43) rfl rfl Try.func40 kr rfl #[.int .i64 a1, .int .i64 x8_2] rfl p5 ?_; (with_reducible refine (spec_l2Has.calls a1 x8_2 true _ A29.out).mono ?_); rintro e w' ⟨rfl, ⟨nd, rfl⟩⟩; refine ⟨_, rfl, ?_⟩) | (go_at_call 55; (with_reducible refine (spec_HasSet.calls k2 _ _ l0_1 (wrap64 ((wrap64 (a1 - (ji33))) + (ji36))) false _ ?side1 ?side2 A37.out).mono ?_); (case side1 => repeat (first | exact (Kd.C_below HR0_1.out pB) | (with_reducible refine Kd.C_alloc ?_ _) | (with_reducible refine Kd.C_drewN ?_ _) | (with_reducible refine Kd.C_drew ?_))); (case side2 => exact HC0_1.out); rintro e w' ⟨rfl, ⟨nd, rfl⟩⟩))
            go_roundg k2
            case measure => have := HJ3.out; have := HK2.out; omega
            case rel => exact ⟨(x7_2), (wrap64 (x8_2 + 1)), p7, p7, H', ⟨by have := HJ3.out; have := HK2.out; omega⟩, ⟨pK BKA.out⟩, ⟨pB⟩⟩
          ·rw [if_neg c35] at H
           exact absurd H (by simp)
         ·rw [if_neg c32] at H
          exact absurd H (by simp)
        ·replace c30 := Bool.eq_false_iff.mpr c30
         subst c30
         replace H := iN H
         have H' := Aside0.mk H
         clear H
         obtain ⟨hcz43_0, hcz43_1, hfz43_0, hfz43_1⟩ := bc2 BKA.out
         go_wp2_with (first | ((with_reducible refine gate_callee (f := 40) rfl ?_); refine goesL_ (some 43) rfl rfl Try.func40 kr rfl #[.int .i64 a1, .int .i64 x8_2] rfl p5 ?_; (with_reducible refine (spec_l2Has.calls a1 x8_2 false _ A29.out).mono ?_); rintro e w' ⟨rfl, ⟨nd, rfl⟩⟩; refine ⟨_, rfl, ?_⟩))
         go_roundg k2
         case measure => have := HJ3.out; have := HK2.out; omega
         case rel => exact ⟨(x7_2), (wrap64 (x8_2 + 1)), p7, p7, H', ⟨by have := HJ3.out; have := HK2.out; omega⟩, ⟨pK BKA.out⟩, ⟨pB⟩⟩
       ·rw [if_neg c28] at H
        have c28b0 : decide (x8_2 < a0_0) = false := decide_eq_false c28
        clear c28
        obtain rfl := Option.some.inj H
        obtain ⟨hcz44_0, hcz44_1, hfz44_0, hfz44_1⟩ := bc2 BKA.out
        go_wp2
        go_ret
        exact ⟨by first | rfl | (simp [errW_none, errW_some] <;> rfl) | (simp only [← hji25, ← hji27]; first | rfl | (simp [errW_none, errW_some] <;> rfl)) | (simp [*, errW_none, errW_some] <;> rfl), pB⟩
    ·rw [if_neg c26] at H
     exact absurd H (by simp)
def spec_HasElement.f (a0 : Int) (a1 : Int) : Option (Bool) := (spec_IsSet.f 8 a0).bind fun tA => (if tA = true then ((spec_l1In.f a1 0 7).bind fun tB => (if tB = true then ((spec_l2Has.f a0 a1).bind fun tC => (some tC)) else (some false))) else (some false))
set_option maxHeartbeats 8000000 in
set_option maxRecDepth 100000 in
theorem spec_HasElement.calls (a0 : Int) (a1 : Int) (r : Bool) (w : World) (h : spec_HasElement.f a0 a1 = some r) :
  Calls Try.prog 54 #[.int .i64 a0, .int .i64 a1] w fun e w' => e = .returned (.bool r) ∧ Drawn0 w w' := by
 have H : ((spec_IsSet.f 8 a0).bind fun tA => (if tA = true then ((spec_l1In.f a1 0 7).bind fun tB => (if tB = true then ((spec_l2Has.f a0 a1).bind fun tC => (some tC)) else (some false))) else (some false))) = some r := h
 clear h
 replace H := bS H
 obtain ⟨tA, A3, H⟩ := H
 by_cases c4 : tA = true
 ·subst c4
  replace H := iP H
  replace H := bS H
  obtain ⟨tB, A5, H⟩ := H
  by_cases c6 : tB = true
  ·subst c6
   replace H := iP H
   replace H := bS H
   obtain ⟨tC, A7, H⟩ := H
   obtain rfl := Option.some.inj H
   go_enter Try.func54, Try.ntmps54
   go_wp2_with (first | ((with_reducible refine gate_callee (f := 52) rfl ?_); refine goesL_ (some 6) rfl rfl Try.func52 kr rfl #[.int .i64 8, .int .i64 a0] rfl p5 ?_; (with_reducible refine (spec_IsSet.calls 8 a0 true _ A3.out).mono ?_); rintro e w' ⟨rfl, ⟨nd, rfl⟩⟩; refine ⟨_, rfl, ?_⟩) | (go_at_call 53; (with_reducible refine (spec_l1In.calls a1 0 7 true _ A5.out).mono ?_); rintro e w' ⟨rfl, ⟨nd, rfl⟩⟩) | (go_at_call 40; (with_reducible refine (spec_l2Has.calls a0 a1 tC _ A7.out).mono ?_); rintro e w' ⟨rfl, ⟨nd, rfl⟩⟩))
   go_ret
   exact ⟨p7, by repeat (first | exact Drawn0.refl _ | apply Drawn0.step)⟩
  ·replace c6 := Bool.eq_false_iff.mpr c6
   subst c6
   replace H := iN H
   obtain rfl := Option.some.inj H
   go_enter Try.func54, Try.ntmps54
   go_wp2_with (first | ((with_reducible refine gate_callee (f := 52) rfl ?_); refine goesL_ (some 6) rfl rfl Try.func52 kr rfl #[.int .i64 8, .int .i64 a0] rfl p5 ?_; (with_reducible refine (spec_IsSet.calls 8 a0 true _ A3.out).mono ?_); rintro e w' ⟨rfl, ⟨nd, rfl⟩⟩; refine ⟨_, rfl, ?_⟩) | (go_at_call 53; (with_reducible refine (spec_l1In.calls a1 0 7 false _ A5.out).mono ?_); rintro e w' ⟨rfl, ⟨nd, rfl⟩⟩))
   go_ret
   exact ⟨p7, by repeat (first | exact Drawn0.refl _ | apply Drawn0.step)⟩
 ·replace c4 := Bool.eq_false_iff.mpr c4
  subst c4
  replace H := iN H
  obtain rfl := Option.some.inj H
  go_enter Try.func54, Try.ntmps54
  go_wp2_with (first | ((with_reducible refine gate_callee (f := 52) rfl ?_); refine goesL_ (some 6) rfl rfl Try.func52 kr rfl #[.int .i64 8, .int .i64 a0] rfl p5 ?_; (with_reducible refine (spec_IsSet.calls 8 a0 false _ A3.out).mono ?_); rintro e w' ⟨rfl, ⟨nd, rfl⟩⟩; refine ⟨_, rfl, ?_⟩))
  go_ret
  exact ⟨p7, by repeat (first | exact Drawn0.refl _ | apply Drawn0.step)⟩
def spec_ElementsOf.l0 : Nat → Int → List Int → Int → Option (List Int)
 | 0, _, _, _ => none
 | k + 1, x0, x3, x4 => if x4 < 8 then ((spec_HasElement.f x0 x4).bind fun tA => (if tA = true then (if x3.length < 17592186044416 then (spec_ElementsOf.l0 k x0 (x3 ++ [x4]) (wrap64 (x4 + 1))) else (none)) else (spec_ElementsOf.l0 k x0 x3 (wrap64 (x4 + 1))))) else (some x3)
def spec_ElementsOf.f (k : Nat) (a0 : Int) : Option (List Int) := spec_ElementsOf.l0 k a0 (([] : List Int)) 0
set_option maxHeartbeats 8000000 in
set_option maxRecDepth 100000 in
theorem spec_ElementsOf.calls (k : Nat) (a0 : Int) (r : List Int) (w : World) (h : spec_ElementsOf.f k a0 = some r) :
  Calls Try.prog 39 #[.int .i64 a0] w fun e w' => ∃ v0_ : Value, e = .returned (v0_) ∧ Kd.R (Kd.int .i64) 3 w' w.heap.size (fun _ => True) v0_ r ∧ Below w.heap.size w w' := by
 have HB := Aside0.mk (Below.refl w.heap.size w)
 have H : (spec_ElementsOf.l0 k a0 (([] : List Int)) 0) = some r := h
 clear h
 obtain ⟨yA, hyA⟩ : ∃ y_ : List Int, y_ = (([] : List Int)) := ⟨_, rfl⟩
 replace H : (spec_ElementsOf.l0 k a0 yA 0) = some r := yR hyA H
 have NyA := Aside0.mk hyA
 clear hyA
 have H' := Aside0.mk H
 clear H
 go_enter Try.func39, Try.ntmps39
 go_wp2_with (first | ((with_reducible refine gate_dst (N := 5) rfl ?_); refine Kd.R_lit (Kd.int .i64) _ 3 ?hg (N := 5) ?hd (xs := ([] : List Int)) (inner := []) (ok := fun _ => True) (okp := fun _ => True) ?hr ?hp (fun _ hk => hk) trivial (Below.refl _ _) (Nat.le_refl _) (by simp) ?_; (case hd => rfl); (case hg => rfl); (case hr => first | (go_simp; done) | (go_simp; rfl)); (case hp => exact (Reps.none _ _)); intro vF w2 ho3 hb hg_ hnew_; clear hg_ hnew_; (first | rw [← NyA.out] at ho3 | (simp only [Int.reduceToNat] at ho3; rw [← NyA.out] at ho3)); have HOC := Aside0.mk (Kd.R_lower ho3 (below_size pB)); replace HB := aH hb; clear hb ho3))
 go_loopg [3, 4] k (fun kq v3 v4 w' => ∃ (x3_1 : List Int) (x4_1 : Int), v4 = .int .i64 x4_1 ∧ Aside0 (spec_ElementsOf.l0 kq a0 x3_1 x4_1 = some r) ∧ Aside0 (kq ≤ k) ∧ Aside0 (Kd.R (Kd.int .i64) 3 w' w.heap.size (fun _ => True) v3 x3_1) ∧ Aside0 (Below w.heap.size w w'))
 case atStart => exact ⟨(yA), (0), p7, H', ⟨Nat.le_refl _⟩, ⟨pR HOC.out⟩, ⟨pB⟩⟩
 case round =>
  clear H'
  obtain ⟨x3_1, x4_1, rfl, HA, HK1, HO_3, HB⟩ := hrel
  cases gk with
  | zero => exact absurd HA.out (by simp [spec_ElementsOf.l0])
  | succ k1 =>
   have H := HA.out
   clear HA
   simp only [spec_ElementsOf.l0] at H
   by_cases c4 : x4_1 < 8
   ·rw [if_pos c4] at H
    have c4b0 : decide (x4_1 < 8) = true := decide_eq_true c4
    clear c4
    replace H := bS H
    obtain ⟨tD, A5, H⟩ := H
    by_cases c6 : tD = true
    ·subst c6
     replace H := iP H
     by_cases c7 : x3_1.length < 17592186044416
     ·rw [if_pos c7] at H
      have LMc7 := Aside0.mk c7
      clear c7
      obtain ⟨yB, hyB⟩ : ∃ y_ : List Int, y_ = (x3_1 ++ [x4_1]) := ⟨_, rfl⟩
      replace H : (spec_ElementsOf.l0 k1 a0 yB (wrap64 (x4_1 + 1))) = some r := yR hyB H
      have NyB := Aside0.mk hyB
      clear hyB
      have H' := Aside0.mk H
      clear H
      go_wp2_with (first | ((with_reducible refine gate_callee (f := 54) rfl ?_); refine goesL_ (some 12) rfl rfl Try.func54 kr rfl #[.int .i64 a0, .int .i64 x4_1] rfl p5 ?_; (with_reducible refine (spec_HasElement.calls a0 x4_1 true _ A5.out).mono ?_); rintro e w' ⟨rfl, ⟨nd, rfl⟩⟩; refine ⟨_, rfl, ?_⟩) | ((with_reducible refine gate_builtin (b := .append) (xs := #[.tmp 13, .tmp 15]) rfl ?_); at_builtin; refine Kd.R_append (Kd.int .i64) (w0 := w) w.heap.size rfl (.tmp 13) (.tmp 15) 22 3 (.int .i64 0) 8 rfl Try.underlying22 info3 rfl (by decide) (by omega) u3 x3_1 x4_1 [.int .i64 x4_1] (fun _ => True) (fun _ => False) rfl rfl ?aP (fun _ hk => hk.elim) ?aF ?aO ?aB ?aS ?aL ?_; (case aP => exact rfl); (case aB => exact pB); (case aF => exact (fun _ _ => trivial)); (case aO => exact (pR HO_3.out)); (case aS => exact (below_size pB)); (case aL => have := LMc7.out; omega); intro vG w8 ho hb hg hat; rw [← NyB.out] at ho; have n0_ := Aside0.mk (hb); have n1_ := Aside0.mk (ho); clear HB; clear HO_3; have HB := n0_; have HOE := n1_; clear n0_ n1_; clear ho hb hg hat))
      go_roundg k1
      case measure => have := HK1.out; omega
      case rel => exact ⟨(yB), (wrap64 (x4_1 + 1)), p7, H', ⟨by have := HK1.out; omega⟩, ⟨pR HOE.out⟩, ⟨pB⟩⟩
     ·rw [if_neg c7] at H
      exact absurd H (by simp)
    ·replace c6 := Bool.eq_false_iff.mpr c6
     subst c6
     replace H := iN H
     have H' := Aside0.mk H
     clear H
     go_wp2_with (first | ((with_reducible refine gate_callee (f := 54) rfl ?_); refine goesL_ (some 12) rfl rfl Try.func54 kr rfl #[.int .i64 a0, .int .i64 x4_1] rfl p5 ?_; (with_reducible refine (spec_HasElement.calls a0 x4_1 false _ A5.out).mono ?_); rintro e w' ⟨rfl, ⟨nd, rfl⟩⟩; refine ⟨_, rfl, ?_⟩))
     go_roundg k1
     case measure => have := HK1.out; omega
     case rel => exact ⟨(x3_1), (wrap64 (x4_1 + 1)), p7, H', ⟨by have := HK1.out; omega⟩, ⟨pR HO_3.out⟩, ⟨pB⟩⟩
   ·rw [if_neg c4] at H
    have c4b0 : decide (x4_1 < 8) = false := decide_eq_false c4
    clear c4
    obtain rfl := Option.some.inj H
    go_wp2
    go_ret
    exact ⟨_, p8, pR HO_3.out, pB⟩
def spec_l1Bit.f (a0 : Bool) : Option (Int) := if a0 = true then (some 1) else (some 0)
set_option maxHeartbeats 8000000 in
set_option maxRecDepth 100000 in
theorem spec_l1Bit.calls (a0 : Bool) (r : Int) (w : World) (h : spec_l1Bit.f a0 = some r) :
  Calls Try.prog 41 #[.bool a0] w fun e w' => e = .returned (.int .i64 r) ∧ Drawn0 w w' := by
 have H : (if a0 = true then (some 1) else (some 0)) = some r := h
 clear h
 by_cases c2 : a0 = true
 ·subst c2
  replace H := iP H
  obtain rfl := Option.some.inj H
  go_enter Try.func41, Try.ntmps41
  go_wp2
  go_ret
  exact ⟨p7, by repeat (first | exact Drawn0.refl _ | apply Drawn0.step)⟩
 ·replace c2 := Bool.eq_false_iff.mpr c2
  subst c2
  replace H := iN H
  obtain rfl := Option.some.inj H
  go_enter Try.func41, Try.ntmps41
  go_wp2
  go_ret
  exact ⟨p7, by repeat (first | exact Drawn0.refl _ | apply Drawn0.step)⟩
end Go.Proofs.Ytbhckhblonkajaa.Q
