/- Part of a proof: contracts and lemmas that the row's text uses; joined by a program. -/
import Derived.Test.YtbhckhblonkajaaH04
import Derived.Test.YtbhckhblonkajaaH15
set_option linter.unusedVariables false
set_option linter.unusedSimpArgs false
namespace Go.Proofs.Ytbhckhblonkajaa.Q
open Go.RowKit Go.Proofs.YtbhckhblonkajaaW.PrintWords Go.Proofs.YtbhckhblonkajaaW.PrintLast Go.Proofs.YtbhckhblonkajaaW.PrintMore
attribute [local go_sem] max2_int min2_int max_two min_two max_three min_three max_four min_four
mutual
def spec_l4Rank.l0 : Nat → Int → Int → Int → Int → List Int → Int → Int → Option (Int)
 | 0, _, _, _, _, _, _, _ => none
 | k + 1, x0, x1, x2, x4, x11, x12, x13 => if x13 < x2 then ((spec_l2Has.f x4 x13).bind fun tA => (if tA = true then (spec_l4Rank.l1 k x0 x1 x2 x4 x11 x12 x13 x12) else (spec_l4Rank.l0 k x0 x1 x2 x4 x11 x12 (wrap64 (x13 + 1))))) else (some x12)
def spec_l4Rank.j2 : Nat → Int → Int → Int → Int → List Int → Int → Int → Int → Option (Int)
 | 0, _, _, _, _, _, _, _, _ => none
 | k + 1, x0, x1, x2, x4, x11, x12, x13, x14 => if x14 ≥ x1 then (spec_l4Rank.l0 k x0 x1 x2 x4 x11 x12 (wrap64 (x13 + 1))) else (spec_l4Rank.l2 k x0 x1 x2 x4 x11 x12 x13 x14 0)
def spec_l4Rank.l2 : Nat → Int → Int → Int → Int → List Int → Int → Int → Int → Int → Option (Int)
 | 0, _, _, _, _, _, _, _, _, _ => none
 | k + 1, x0, x1, x2, x4, x11, x12, x13, x14, x15 => if x15 < x2 then (if 0 ≤ (wrap64 ((wrap64 (x14 * x2)) + x15)) then (if (wrap64 ((wrap64 (x14 * x2)) + x15)) < (x11.length : Int) then (if 0 ≤ (wrap64 ((wrap64 (x12 * x2)) + x15)) then (if (wrap64 ((wrap64 (x12 * x2)) + x15)) < (x11.length : Int) then (spec_l4Rank.l2 k x0 x1 x2 x4 ((x11.set ((wrap64 ((wrap64 (x14 * x2)) + x15)) : Int).toNat (rd x11 (wrap64 ((wrap64 (x12 * x2)) + x15)))).set ((wrap64 ((wrap64 (x12 * x2)) + x15)) : Int).toNat (rd x11 (wrap64 ((wrap64 (x14 * x2)) + x15)))) x12 x13 x14 (wrap64 (x15 + 1))) else (none)) else (none)) else (none)) else (none)) else (spec_l4Rank.l3 k x0 x1 x2 x4 x11 x12 x13 (wrap64 (x12 + 1)))
def spec_l4Rank.l3 : Nat → Int → Int → Int → Int → List Int → Int → Int → Int → Option (Int)
 | 0, _, _, _, _, _, _, _, _ => none
 | k + 1, x0, x1, x2, x4, x11, x12, x13, x17 => if x17 < x1 then (if 0 ≤ (wrap64 ((wrap64 (x17 * x2)) + x13)) then (if (wrap64 ((wrap64 (x17 * x2)) + x13)) < (x11.length : Int) then (if 0 ≤ (wrap64 ((wrap64 (x12 * x2)) + x13)) then (if (wrap64 ((wrap64 (x12 * x2)) + x13)) < (x11.length : Int) then (spec_l4Rank.l4 k x0 x1 x2 x4 x11 x12 x13 x17 (rd x11 (wrap64 ((wrap64 (x17 * x2)) + x13))) (rd x11 (wrap64 ((wrap64 (x12 * x2)) + x13))) 0) else (none)) else (none)) else (none)) else (none)) else (spec_l4Rank.l0 k x0 x1 x2 x4 x11 (wrap64 (x12 + 1)) (wrap64 (x13 + 1)))
def spec_l4Rank.l4 : Nat → Int → Int → Int → Int → List Int → Int → Int → Int → Int → Int → Int → Option (Int)
 | 0, _, _, _, _, _, _, _, _, _, _, _ => none
 | k + 1, x0, x1, x2, x4, x11, x12, x13, x17, x18, x19, x20 => if x20 < x2 then (if 0 ≤ (wrap64 ((wrap64 (x17 * x2)) + x20)) then (if (wrap64 ((wrap64 (x17 * x2)) + x20)) < (x11.length : Int) then (if 0 ≤ (wrap64 ((wrap64 (x12 * x2)) + x20)) then (if (wrap64 ((wrap64 (x12 * x2)) + x20)) < (x11.length : Int) then (if x0 = 0 then (none) else (spec_l4Rank.l4 k x0 x1 x2 x4 (x11.set ((wrap64 ((wrap64 (x17 * x2)) + x20)) : Int).toNat (Int.tmod (wrap64 ((Int.tmod (wrap64 ((wrap64 ((rd x11 (wrap64 ((wrap64 (x17 * x2)) + x20))) * x19)) - (wrap64 ((rd x11 (wrap64 ((wrap64 (x12 * x2)) + x20))) * x18)))) x0) + x0)) x0)) x12 x13 x17 x18 x19 (wrap64 (x20 + 1)))) else (none)) else (none)) else (none)) else (none)) else (spec_l4Rank.l3 k x0 x1 x2 x4 x11 x12 x13 (wrap64 (x17 + 1)))
def spec_l4Rank.l1 : Nat → Int → Int → Int → Int → List Int → Int → Int → Int → Option (Int)
 | 0, _, _, _, _, _, _, _, _ => none
 | k + 1, x0, x1, x2, x4, x11, x12, x13, x14 => if x14 < x1 then (if 0 ≤ (wrap64 ((wrap64 (x14 * x2)) + x13)) then (if (wrap64 ((wrap64 (x14 * x2)) + x13)) < (x11.length : Int) then (if (rd x11 (wrap64 ((wrap64 (x14 * x2)) + x13))) = 0 then (spec_l4Rank.l1 k x0 x1 x2 x4 x11 x12 x13 (wrap64 (x14 + 1))) else (spec_l4Rank.j2 k x0 x1 x2 x4 x11 x12 x13 x14)) else (none)) else (none)) else (spec_l4Rank.j2 k x0 x1 x2 x4 x11 x12 x13 x14)
end
def spec_l4Rank.f (k : Nat) (a0 : Int) (a1 : Int) (a2 : Int) (l3 : List Int) (a4 : Int) : Option (Int) := (some (([] : List Int) : List Int)).bind fun yA => (if yA.length + l3.length < 17592186044416 then (spec_l4Rank.l0 k a0 a1 a2 a4 (yA ++ l3) 0 0) else (none))
def spec_l4Rank.T25 : Bool × List (List Nat × List Nat) := (true, [([], []), ([], []), ([], []), ([1, 2], [1, 2]), ([], []), ([3, 4], [3, 4]), ([], []), ([], []), ([], []), ([7, 8], [7, 8]), ([], []), ([9, 10], [9, 10]), ([6, 11], [6, 11]), ([12], [12]), ([], []), ([13, 14], [13, 14]), ([], []), ([], []), ([], []), ([17, 18], [17, 18]), ([], []), ([19, 20], [19, 20]), ([16, 21], [16, 21]), ([22], [22]), ([], []), ([23, 24], [23, 24]), ([15, 25], [15, 25]), ([], []), ([26, 27], [26, 27]), ([], []), ([28, 29], [28, 29]), ([], []), ([30, 31], [30, 31]), ([0, 5, 0, 1, 2, 3, 4, 5, 6, 7, 8, 9, 10, 11, 12, 13, 14, 15, 16, 17, 18, 19, 20, 21, 22, 23, 24, 25, 26, 27, 28, 29, 30, 31, 32], [0, 5]), ([33, 32, 0, 1, 2, 3, 4, 5, 6, 7, 8, 9, 10, 11, 12, 13, 14, 15, 16, 17, 18, 19, 20, 21, 22, 23, 24, 25, 26, 27, 28, 29, 30, 31, 32], [32, 33])])
def spec_l4Rank.B25 : List Nat := [0, 0, 0, 6, 0, 30, 0, 0, 0, 384, 0, 1920, 4032, 8128, 0, 32704, 0, 0, 0, 393216, 0, 1966080, 4128768, 8323072, 0, 33488896, 67108800, 0, 268435392, 0, 1073741760, 0, 4294967232, 8589934591, 17179869183]
theorem spec_l4Rank.tab25 : rtab .any (opsOf Try.f57 25) = spec_l4Rank.T25 := by kernel_rfl
theorem spec_l4Rank.bits25 : waitsOk spec_l4Rank.T25.2 spec_l4Rank.B25 = true := by kernel_rfl
set_option maxHeartbeats 8000000 in
set_option maxRecDepth 100000 in
theorem spec_l4Rank.calls (k : Nat) (a0 : Int) (a1 : Int) (a2 : Int) (A3 : Option Addr) (c3 : Nat) (l3 : List Int) (a4 : Int) (r : Int) (w : World) (hr3 : Kd.C (Kd.int .i64) w A3 l3.length l3) (hc3 : l3.length ≤ c3) (h : spec_l4Rank.f k a0 a1 a2 l3 a4 = some r) :
  Calls Try.prog 57 #[.int .i64 a0, .int .i64 a1, .int .i64 a2, .slice A3 l3.length c3, .int .i64 a4] w fun e w' => e = .returned (.int .i64 r) ∧ Below w.heap.size w w' := by
 have HR3 := Aside0.mk hr3
 have HC3 := Aside0.mk hc3
 clear hr3 hc3
 have HB := Aside0.mk (Below.refl w.heap.size w)
 have H : ((some (([] : List Int) : List Int)).bind fun yA => (if yA.length + l3.length < 17592186044416 then (spec_l4Rank.l0 k a0 a1 a2 a4 (yA ++ l3) 0 0) else (none))) = some r := h
 clear h
 obtain ⟨yA, hyA⟩ : ∃ y_ : List Int, y_ = (([] : List Int)) := ⟨_, rfl⟩
 replace H : (if yA.length + l3.length < 17592186044416 then (spec_l4Rank.l0 k a0 a1 a2 a4 (yA ++ l3) 0 0) else (none)) = some r := yR hyA H
 have NyA := Aside0.mk hyA
 clear hyA
 by_cases c6 : yA.length + l3.length < 17592186044416
 ·rw [if_pos c6] at H
  have LMc6 := Aside0.mk c6
  clear c6
  obtain ⟨yO, hyO⟩ : ∃ y_ : List Int, y_ = (yA ++ l3) := ⟨_, rfl⟩
  replace H : (spec_l4Rank.l0 k a0 a1 a2 a4 yO 0 0) = some r := yR hyO H
  have NyO := Aside0.mk hyO
  clear hyO
  have H' := Aside0.mk H
  clear H
  go_enter Try.func57, Try.ntmps57
  go_wp2_with (first | ((with_reducible refine gate_dst (N := 21) rfl ?_); refine Kd.R_lit (Kd.int .i64) _ 3 ?hg (N := 21) ?hd (xs := ([] : List Int)) (inner := []) (ok := fun _ => True) (okp := fun _ => True) ?hr ?hp (fun _ hk => hk) trivial (Below.refl _ _) (Nat.le_refl _) (by simp) ?_; (case hd => rfl); (case hg => rfl); (case hr => first | (go_simp; done) | (go_simp; rfl)); (case hp => exact (Reps.none _ _)); intro vU w7 ho8 hb hg_ hnew_; clear hg_ hnew_; (first | rw [← NyA.out] at ho8 | (simp only [Int.reduceToNat] at ho8; rw [← NyA.out] at ho8)); have HOT := Aside0.mk (Kd.R_lower ho8 (below_size pB)); replace HB := aH hb; clear hb ho8) | ((with_reducible refine gate_builtin (b := .append) (xs := #[.tmp 21, .tmp 22]) rfl ?_); at_builtin; refine Kd.R_append_rows (Kd.int .i64) (w0 := w) w.heap.size rfl (.tmp 21) (.tmp 22) 22 3 (.int .i64 0) 8 rfl Try.underlying22 info3 rfl (by decide) (by omega) vU yA l3 _ _ _ (fun _ => True) (fun _ => False) rfl rfl ?aO ?aR (fun _ _ h => h) (fun _ h => h.elim) ?aF ?aB ?aS ?aL ?_; (case aR => exact pC (Kd.C_below HR3.out HB.out)); (case aB => exact pB); (case aF => exact (fun _ _ => trivial)); (case aO => exact (pR HOT.out)); (case aS => exact (below_size pB)); (case aL => have := LMc6.out; omega); intro vQ w9 ho hb hg hat; rw [← NyO.out] at ho; have n0_ := Aside0.mk (hb); have n1_ := Aside0.mk (ho); clear HB; clear HOT; have HB := n0_; have HOV := n1_; clear n0_ n1_; clear ho hb hg hat))
  go_loopg [12, 13] k (fun kq v12 v13 w' => ∃ (x11_1 : List Int) (x12_1 : Int) (x13_1 : Int), v12 = .int .i64 x12_1 ∧ v13 = .int .i64 x13_1 ∧ Aside0 (spec_l4Rank.l0 kq a0 a1 a2 a4 x11_1 x12_1 x13_1 = some r) ∧ Aside0 (kq ≤ k) ∧ Aside0 (Kd.R (Kd.int .i64) 3 w' w.heap.size (fun _ => True) vQ x11_1) ∧ Aside0 (Below w.heap.size w w'))
  case atStart => exact ⟨(yO), (0), (0), p7, p7, H', ⟨Nat.le_refl _⟩, ⟨pR HOV.out⟩, ⟨pB⟩⟩
  case round =>
   clear H'
   try clear c3
   try clear c6
   obtain ⟨x11_1, x12_1, x13_1, rfl, rfl, HA, HK1, HO_11, HB⟩ := hrel
   cases gk with
   | zero => exact absurd HA.out (by simp [spec_l4Rank.l0])
   | succ k1 =>
    have H := HA.out
    clear HA
    simp only [spec_l4Rank.l0] at H
    by_cases c10 : x13_1 < a2
    ·rw [if_pos c10] at H
     have c10b0 : decide (x13_1 < a2) = true := decide_eq_true c10
     clear c10
     replace H := bS H
     obtain ⟨tW, A11, H⟩ := H
     by_cases c12 : tW = true
     ·subst c12
      replace H := iP H
      have HC13 := Aside0.mk H
      clear H
      go_upto_block 2 with (first | ((with_reducible refine gate_callee (f := 40) rfl ?_); refine goesL_ (some 31) rfl rfl Try.func40 kr rfl #[.int .i64 a4, .int .i64 x13_1] rfl p5 ?_; (with_reducible refine (spec_l2Has.calls a4 x13_1 true _ A11.out).mono ?_); rintro e w' ⟨rfl, ⟨nd, rfl⟩⟩; refine ⟨_, rfl, ?_⟩))
      (try simp only [Act.put, List.setIfInBounds_toArray, List.set_cons_zero, List.set_cons_succ])
      go_cut [14] (fun v14 wc => ∃ (kq : Nat) (x14_12 : Int), v14 = .int .i64 x14_12 ∧ Aside0 (spec_l4Rank.j2 kq a0 a1 a2 a4 x11_1 x12_1 x13_1 x14_12 = some r) ∧ Aside0 (kq ≤ k1) ∧ Aside0 (Kd.R (Kd.int .i64) 3 wc w.heap.size (fun _ => True) vQ x11_1) ∧ Aside0 (Below w.heap.size w wc))
      case first =>
       have H := HC13.out
       clear HC13
       have H' := Aside0.mk H
       clear H
       go_wp2
       go_loopg [14] k1 (fun kq v14 w' => ∃ (x14_2 : Int), v14 = .int .i64 x14_2 ∧ Aside0 (spec_l4Rank.l1 kq a0 a1 a2 a4 x11_1 x12_1 x13_1 x14_2 = some r) ∧ Aside0 (kq ≤ k1) ∧ Aside0 (Kd.R (Kd.int .i64) 3 w' w.heap.size (fun _ => True) vQ x11_1) ∧ Aside0 (Below w.heap.size w w'))
       case atStart => exact ⟨(x12_1), p7, H', ⟨Nat.le_refl _⟩, ⟨pR HO_11.out⟩, ⟨pB⟩⟩
       case round =>
        clear H'
        try clear c3
        try clear c6
        try clear c10
        try clear c10b0
        try clear c12
        obtain ⟨x14_2, rfl, HA, HK2, HO_11, HB⟩ := hrel
        cases gk with
        | zero => exact absurd HA.out (by simp [spec_l4Rank.l1])
        | succ k2 =>
         have H := HA.out
         clear HA
         simp only [spec_l4Rank.l1] at H
         by_cases c14 : x14_2 < a1
         ·rw [if_pos c14] at H
          have c14b0 : decide (x14_2 < a1) = true := decide_eq_true c14
          clear c14
          (first | rw [c14b0] | (simp only [i64_w, i32_w]; rw [c14b0]) | skip)
          obtain ⟨ji15, hji15⟩ : ∃ j_ : Int, (wrap64 ((wrap64 (x14_2 * a2)) + x13_1)) = j_ := ⟨_, rfl⟩
          replace H : (if 0 ≤ (ji15) then (if (ji15) < (x11_1.length : Int) then (if (rd x11_1 (ji15)) = 0 then (spec_l4Rank.l1 k2 a0 a1 a2 a4 x11_1 x12_1 x13_1 (wrap64 (x14_2 + 1))) else (spec_l4Rank.j2 k2 a0 a1 a2 a4 x11_1 x12_1 x13_1 x14_2)) else (none)) else (none)) = some r := jR hji15 H
          have hji15w : (IntKind.i64.wrap ((wrap64 (x14_2 * a2)) + x13_1)) = ji15 := (i64_w _).trans hji15
          by_cases c16 : 0 ≤ (ji15)
          ·rw [if_pos c16] at H
           have c16b0 : decide (0 ≤ (ji15)) = true := decide_eq_true c16
           clear c16
           by_cases c17 : (ji15) < (x11_1.length : Int)
           ·rw [if_pos c17] at H
            have c17b0 : decide ((ji15) < (x11_1.length : Int)) = true := decide_eq_true c17
            clear c17
            by_cases c18 : (rd x11_1 (ji15)) = 0
            ·rw [if_pos c18] at H
             have c18b0 : ((rd x11_1 (ji15)) == 0) = true := beq_iff_eq.mpr c18
             have c18b1 : ((rd x11_1 (ji15)) != 0) = false := bne_eq_false_iff_eq.mpr c18
             clear c18
             have H' := Aside0.mk H
             clear H
             obtain ⟨Ao19, co19, eo19⟩ := Kd.R_slice HO_11.out
             subst eo19
             have pD : 0 ≤ ((ji15) : Int) := oD
             have qD : (ji15) < (x11_1.length : Int) := oD
             obtain ⟨adD, eD, hxD_0⟩ := Kd.at_int (Kd.R_reads' HO_11.out).2.2 (ji15) pD qD
             cases eD
             replace pD := eq_true pD
             replace qD := eq_true qD
             go_wp2
             go_roundg k2
             case measure => have := HK1.out; have := HK2.out; omega
             case rel => exact ⟨(wrap64 (x14_2 + 1)), p7, H', ⟨by have := HK1.out; have := HK2.out; omega⟩, ⟨pR HO_11.out⟩, ⟨pB⟩⟩
            ·rw [if_neg c18] at H
             have c18b0 : ((rd x11_1 (ji15)) == 0) = false := beq_eq_false_iff_ne.mpr c18
             have c18b1 : ((rd x11_1 (ji15)) != 0) = true := bne_iff_ne.mpr c18
             have H' := Aside0.mk H
             clear H
             obtain ⟨Ao20, co20, eo20⟩ := Kd.R_slice HO_11.out
             subst eo20
             have pD : 0 ≤ ((ji15) : Int) := oD
             have qD : (ji15) < (x11_1.length : Int) := oD
             obtain ⟨adD, eD, hxD_0⟩ := Kd.at_int (Kd.R_reads' HO_11.out).2.2 (ji15) pD qD
             cases eD
             replace pD := eq_true pD
             replace qD := eq_true qD
             go_wp2
             go_meet
             case rel => exact ⟨_, (x14_2), p7, H', ⟨by have := HK1.out; have := HK2.out; first | omega | exact Nat.le_refl _⟩, ⟨pR HO_11.out⟩, ⟨pB⟩⟩
           ·rw [if_neg c17] at H
            exact absurd H (by simp)
          ·rw [if_neg c16] at H
           exact absurd H (by simp)
         ·rw [if_neg c14] at H
          have c14b0 : decide (x14_2 < a1) = false := decide_eq_false c14
          clear c14
          (first | rw [c14b0] | (simp only [i64_w, i32_w]; rw [c14b0]) | skip)
          have H' := Aside0.mk H
          clear H
          go_wp2
          go_meet
          case rel => exact ⟨_, (x14_2), p7, H', ⟨by have := HK1.out; have := HK2.out; first | omega | exact Nat.le_refl _⟩, ⟨pR HO_11.out⟩, ⟨pB⟩⟩
      case rest =>
       clear HC13
       try clear c3
       try clear c6
       try clear c10
       try clear c10b0
       try clear c12
       obtain ⟨kq, x14_12, rfl, HA, HJ12, HO_11, HB⟩ := hcut
       cases kq with
       | zero => exact absurd HA.out (by simp [spec_l4Rank.j2])
       | succ kj12 =>
        have H := HA.out
        clear HA
        simp only [spec_l4Rank.j2] at H
        by_cases c21 : x14_12 ≥ a1
        ·rw [if_pos c21] at H
         have c21b0 : decide (a1 ≤ x14_12) = true := decide_eq_true c21
         clear c21
         have H' := Aside0.mk H
         clear H
         go_wp2
         go_roundg kj12
         case measure => have := HK1.out; have := HJ12.out; omega
         case rel => exact ⟨(x11_1), (x12_1), (wrap64 (x13_1 + 1)), p7, p7, H', ⟨by have := HK1.out; have := HJ12.out; omega⟩, ⟨pR HO_11.out⟩, ⟨pB⟩⟩
        ·rw [if_neg c21] at H
         have c21b0 : decide (a1 ≤ x14_12) = false := decide_eq_false c21
         clear c21
         have H' := Aside0.mk H
         clear H
         go_wp2
         go_loopg [15] kj12 (fun kq v15 w' => ∃ (x11_3 : List Int) (x15_3 : Int), v15 = .int .i64 x15_3 ∧ Aside0 (spec_l4Rank.l2 kq a0 a1 a2 a4 x11_3 x12_1 x13_1 x14_12 x15_3 = some r) ∧ Aside0 (kq ≤ kj12) ∧ Aside0 (Kd.R (Kd.int .i64) 3 w' w.heap.size (fun _ => True) vQ x11_3) ∧ Aside0 (Below w.heap.size w w'))
         case atStart => exact ⟨(x11_1), (0), p7, H', ⟨Nat.le_refl _⟩, ⟨pR HO_11.out⟩, ⟨pB⟩⟩
         case round =>
          clear H'
          try clear c3
          try clear c6
          try clear c10
          try clear c10b0
          try clear c12
          try clear c21
          try clear c21b0
          obtain ⟨x11_3, x15_3, rfl, HA, HK3, HO_11, HB⟩ := hrel
          cases gk with
          | zero => exact absurd HA.out (by simp [spec_l4Rank.l2])
          | succ k3 =>
           have H := HA.out
           clear HA
           simp only [spec_l4Rank.l2] at H
           by_cases c22 : x15_3 < a2
           ·rw [if_pos c22] at H
            have c22b0 : decide (x15_3 < a2) = true := decide_eq_true c22
            clear c22
            obtain ⟨ji23, hji23⟩ : ∃ j_ : Int, (wrap64 ((wrap64 (x14_12 * a2)) + x15_3)) = j_ := ⟨_, rfl⟩
            replace H : (if 0 ≤ (ji23) then (if (ji23) < (x11_3.length : Int) then (if 0 ≤ (wrap64 ((wrap64 (x12_1 * a2)) + x15_3)) then (if (wrap64 ((wrap64 (x12_1 * a2)) + x15_3)) < (x11_3.length : Int) then (spec_l4Rank.l2 k3 a0 a1 a2 a4 ((x11_3.set ((ji23) : Int).toNat (rd x11_3 (wrap64 ((wrap64 (x12_1 * a2)) + x15_3)))).set ((wrap64 ((wrap64 (x12_1 * a2)) + x15_3)) : Int).toNat (rd x11_3 (ji23))) x12_1 x13_1 x14_12 (wrap64 (x15_3 + 1))) else (none)) else (none)) else (none)) else (none)) = some r := jR hji23 H
            have hji23w : (IntKind.i64.wrap ((wrap64 (x14_12 * a2)) + x15_3)) = ji23 := (i64_w _).trans hji23
            by_cases c24 : 0 ≤ (ji23)
            ·rw [if_pos c24] at H
             have c24b0 : decide (0 ≤ (ji23)) = true := decide_eq_true c24
             clear c24
             by_cases c25 : (ji23) < (x11_3.length : Int)
             ·rw [if_pos c25] at H
              have c25b0 : decide ((ji23) < (x11_3.length : Int)) = true := decide_eq_true c25
              clear c25
              obtain ⟨ji26, hji26⟩ : ∃ j_ : Int, (wrap64 ((wrap64 (x12_1 * a2)) + x15_3)) = j_ := ⟨_, rfl⟩
              replace H : (if 0 ≤ (ji26) then (if (ji26) < (x11_3.length : Int) then (spec_l4Rank.l2 k3 a0 a1 a2 a4 ((x11_3.set ((ji23) : Int).toNat (rd x11_3 (ji26))).set ((ji26) : Int).toNat (rd x11_3 (ji23))) x12_1 x13_1 x14_12 (wrap64 (x15_3 + 1))) else (none)) else (none)) = some r := jR hji26 H
              have hji26w : (IntKind.i64.wrap ((wrap64 (x12_1 * a2)) + x15_3)) = ji26 := (i64_w _).trans hji26
              by_cases c27 : 0 ≤ (ji26)
              ·rw [if_pos c27] at H
               have c27b0 : decide (0 ≤ (ji26)) = true := decide_eq_true c27
               clear c27
               by_cases c28 : (ji26) < (x11_3.length : Int)
               ·rw [if_pos c28] at H
                have c28b0 : decide ((ji26) < (x11_3.length : Int)) = true := decide_eq_true c28
                clear c28
                obtain ⟨yB, hyB⟩ : ∃ y_ : List Int, y_ = (x11_3.set ((ji23) : Int).toNat (rd x11_3 (ji26))) := ⟨_, rfl⟩
                replace H : (spec_l4Rank.l2 k3 a0 a1 a2 a4 (yB.set ((ji26) : Int).toNat (rd x11_3 (ji23))) x12_1 x13_1 x14_12 (wrap64 (x15_3 + 1))) = some r := yR hyB H
                have NyB := Aside0.mk hyB
                clear hyB
                obtain ⟨yM, hyM⟩ : ∃ y_ : List Int, y_ = (yB.set ((ji26) : Int).toNat (rd x11_3 (ji23))) := ⟨_, rfl⟩
                replace H : (spec_l4Rank.l2 k3 a0 a1 a2 a4 yM x12_1 x13_1 x14_12 (wrap64 (x15_3 + 1))) = some r := yR hyM H
                have NyM := Aside0.mk hyM
                clear hyM
                have H' := Aside0.mk H
                clear H
                obtain ⟨Ao31, co31, eo31⟩ := Kd.R_slice HO_11.out
                subst eo31
                have pJ : 0 ≤ ((ji23) : Int) := oD
                have qJ : (ji23) < (x11_3.length : Int) := oD
                obtain ⟨adJ, eJ, hxJ_0⟩ := Kd.at_int (Kd.R_reads' HO_11.out).2.2 (ji23) pJ qJ
                cases eJ
                replace pJ := eq_true pJ
                replace qJ := eq_true qJ
                have pL : 0 ≤ ((ji26) : Int) := oD
                have qL : (ji26) < (x11_3.length : Int) := oD
                obtain ⟨adL, eL, hxL_0⟩ := Kd.at_int (Kd.R_reads' HO_11.out).2.2 (ji26) pL qL
                obtain rfl : adJ = adL := (by injection eL)
                replace pL := eq_true pL
                replace qL := eq_true qL
                have p29 : 0 ≤ ((ji23) : Int) := oD
                have q29 : ((ji23) : Int) < ((x11_3.length : Int) : Int) := oD
                obtain ⟨go29, co29, eo29, gb29, gl29, cl29, HG29⟩ := Kd.R_form HO_11.out (by omega)
                (first | cases eo29 | (injection eo29 with ea_ en_ ec_; (first | subst ea_ | (injection ea_ with ea_; subst ea_)); subst ec_; clear en_))
                have GB29 := Aside0.mk gb29
                have GG29 := Aside0.mk HG29
                clear gb29 gl29 HG29
                (first | simp only [add_plain] at hxJ_0 | skip)
                (first | simp only [add_plain] at hxL_0 | skip)
                obtain ⟨hx29_0, hf29_0⟩ := Kd.R_celln 0 HO_11.out ((ji23) : Int) p29 q29
                replace p29 := eq_true p29
                replace q29 := eq_true q29
                have HP32 := Kd.R_putg HO_11.out ((ji23) : Int) (rd x11_3 (ji26))
                go_wp2_with (first | ((with_reducible refine gate_store (t := 3) (p := 80) rfl ?_); refine store_event (t := 3) (p := 80) (v := ?vo_w33) (w1 := (wr.setCell ⟨go29, ((ji23) : Int).toNat, none⟩ (.int .i64 (rd x11_3 (ji26))))) ?hg ?ho ?hn ?hr ?_; (case ho => rfl); (case hg => rfl); (case hn => rfl); (case hr => first | (go_simp; done) | (go_simp; rfl)); intro w33 hw; have hg : wr.grownBy w33 (some go29) := (by rw [hw]; exact HP32.2); have hp_ : Kd.R (Kd.int .i64) 3 w33 w.heap.size (fun _ => True) (.slice (some ⟨go29, 0, none⟩) x11_3.length co31) yB := (by rw [hw, NyB.out]; exact HP32.1); clear HP32; replace HO_11 := Aside0.mk (hp_); replace HB := Aside0.mk ((by rw [hw]; exact below_set (HB.out) GB29.out : Below w.heap.size w w33)); clear hg hw hp_; have p30 : 0 ≤ ((ji26) : Int) := oD; have q30 : ((ji26) : Int) < ((x11_3.length : Int) : Int) := oD; obtain ⟨hx30_0, hf30_0⟩ := Kd.R_celln 0 HO_11.out ((ji26) : Int) p30 q30; replace p30 := eq_true p30; replace q30 := eq_true q30; obtain ⟨hy34_, hz34_⟩ := Kd.R_celln 0 HO_11.out ((ji26) : Int) (oD) (oD); have HP34 := Kd.R_putg HO_11.out ((ji26) : Int) (rd x11_3 (ji23))) | ((with_reducible refine gate_store (t := 3) (p := 88) rfl ?_); refine store_event (t := 3) (p := 88) (v := ?vo_w35) (w1 := (w33.setCell ⟨go29, ((ji26) : Int).toNat, none⟩ (.int .i64 (rd x11_3 (ji23))))) ?hg ?ho ?hn ?hr ?_; (case ho => rfl); (case hg => rfl); (case hn => rfl); (case hr => first | (go_simp; done) | (go_simp; rfl)); intro w35 hw; have hg : w33.grownBy w35 (some go29) := (by rw [hw]; exact HP34.2); have hp_ : Kd.R (Kd.int .i64) 3 w35 w.heap.size (fun _ => True) (.slice (some ⟨go29, 0, none⟩) x11_3.length co31) yM := (by rw [hw, NyM.out]; exact HP34.1); clear HP34; replace HO_11 := Aside0.mk (hp_); replace HB := Aside0.mk ((by rw [hw]; exact below_set (HB.out) GB29.out : Below w.heap.size w w35)); clear hg hw hp_))
                go_roundg k3
                case measure => have := HK1.out; have := HJ12.out; have := HK3.out; omega
                case rel => exact ⟨(yM), (wrap64 (x15_3 + 1)), p7, H', ⟨by have := HK1.out; have := HJ12.out; have := HK3.out; omega⟩, ⟨pR HO_11.out⟩, ⟨pB⟩⟩
               ·rw [if_neg c28] at H
                exact absurd H (by simp)
              ·rw [if_neg c27] at H
               exact absurd H (by simp)
             ·rw [if_neg c25] at H
              exact absurd H (by simp)
            ·rw [if_neg c24] at H
             exact absurd H (by simp)
           ·rw [if_neg c22] at H
            have c22b0 : decide (x15_3 < a2) = false := decide_eq_false c22
            clear c22
            have H' := Aside0.mk H
            clear H
            go_wp2
            go_loopg [17] k3 (fun kq v17 w' => ∃ (x11_4 : List Int) (x17_4 : Int), v17 = .int .i64 x17_4 ∧ Aside0 (spec_l4Rank.l3 kq a0 a1 a2 a4 x11_4 x12_1 x13_1 x17_4 = some r) ∧ Aside0 (kq ≤ k3) ∧ Aside0 (Kd.R (Kd.int .i64) 3 w' w.heap.size (fun _ => True) vQ x11_4) ∧ Aside0 (Below w.heap.size w w'))
            case atStart => exact ⟨(x11_3), (wrap64 (x12_1 + 1)), p7, H', ⟨Nat.le_refl _⟩, ⟨pR HO_11.out⟩, ⟨pB⟩⟩
            case round =>
             clear H'
             try clear c3
             try clear c6
             try clear c10
             try clear c10b0
             try clear c12
             try clear c21
             try clear c21b0
             try clear c22
             try clear c22b0
             obtain ⟨x11_4, x17_4, rfl, HA, HK4, HO_11, HB⟩ := hrel
             cases gk with
             | zero => exact absurd HA.out (by simp [spec_l4Rank.l3])
             | succ k4 =>
              have H := HA.out
              clear HA
              simp only [spec_l4Rank.l3] at H
              by_cases c36 : x17_4 < a1
              ·rw [if_pos c36] at H
               have c36b0 : decide (x17_4 < a1) = true := decide_eq_true c36
               clear c36
               obtain ⟨ji37, hji37⟩ : ∃ j_ : Int, (wrap64 ((wrap64 (x17_4 * a2)) + x13_1)) = j_ := ⟨_, rfl⟩
               replace H : (if 0 ≤ (ji37) then (if (ji37) < (x11_4.length : Int) then (if 0 ≤ (wrap64 ((wrap64 (x12_1 * a2)) + x13_1)) then (if (wrap64 ((wrap64 (x12_1 * a2)) + x13_1)) < (x11_4.length : Int) then (spec_l4Rank.l4 k4 a0 a1 a2 a4 x11_4 x12_1 x13_1 x17_4 (rd x11_4 (ji37)) (rd x11_4 (wrap64 ((wrap64 (x12_1 * a2)) + x13_1))) 0) else (none)) else (none)) else (none)) else (none)) = some r := jR hji37 H
               have hji37w : (IntKind.i64.wrap ((wrap64 (x17_4 * a2)) + x13_1)) = ji37 := (i64_w _).trans hji37
               by_cases c38 : 0 ≤ (ji37)
               ·rw [if_pos c38] at H
                have c38b0 : decide (0 ≤ (ji37)) = true := decide_eq_true c38
                clear c38
                by_cases c39 : (ji37) < (x11_4.length : Int)
                ·rw [if_pos c39] at H
                 have c39b0 : decide ((ji37) < (x11_4.length : Int)) = true := decide_eq_true c39
                 clear c39
                 obtain ⟨ji40, hji40⟩ : ∃ j_ : Int, (wrap64 ((wrap64 (x12_1 * a2)) + x13_1)) = j_ := ⟨_, rfl⟩
                 replace H : (if 0 ≤ (ji40) then (if (ji40) < (x11_4.length : Int) then (spec_l4Rank.l4 k4 a0 a1 a2 a4 x11_4 x12_1 x13_1 x17_4 (rd x11_4 (ji37)) (rd x11_4 (ji40)) 0) else (none)) else (none)) = some r := jR hji40 H
                 have hji40w : (IntKind.i64.wrap ((wrap64 (x12_1 * a2)) + x13_1)) = ji40 := (i64_w _).trans hji40
                 by_cases c41 : 0 ≤ (ji40)
                 ·rw [if_pos c41] at H
                  have c41b0 : decide (0 ≤ (ji40)) = true := decide_eq_true c41
                  clear c41
                  by_cases c42 : (ji40) < (x11_4.length : Int)
                  ·rw [if_pos c42] at H
                   have c42b0 : decide ((ji40) < (x11_4.length : Int)) = true := decide_eq_true c42
                   clear c42
                   have H' := Aside0.mk H
                   clear H
                   obtain ⟨Ao43, co43, eo43⟩ := Kd.R_slice HO_11.out
                   subst eo43
                   have pE : 0 ≤ ((ji37) : Int) := oD
                   have qE : (ji37) < (x11_4.length : Int) := oD
                   obtain ⟨goZ, coZ, eoZ, gbZ, glZ, clZ, HGZ⟩ := Kd.R_form HO_11.out (by omega)
                   (first | cases eoZ | (injection eoZ with ea_ en_ ec_; (first | subst ea_ | (injection ea_ with ea_; subst ea_)); subst ec_; clear en_))
                   clear gbZ glZ clZ HGZ
                   obtain ⟨adE, eE, hxE_0⟩ := Kd.at_int (Kd.R_reads' HO_11.out).2.2 (ji37) pE qE
                   cases eE
                   (first | simp only [add_plain] at hxE_0 | skip)
                   replace pE := eq_true pE
                   replace qE := eq_true qE
                   have pF : 0 ≤ ((ji40) : Int) := oD
                   have qF : (ji40) < (x11_4.length : Int) := oD
                   obtain ⟨adF, eF, hxF_0⟩ := Kd.at_int (Kd.R_reads' HO_11.out).2.2 (ji40) pF qF
                   cases eF
                   replace pF := eq_true pF
                   replace qF := eq_true qF
                   (first | simp only [add_plain] at hxF_0 | skip)
                   go_wp2
                   go_loopg [20] k4 (fun kq v20 w' => ∃ (x11_5 : List Int) (x20_5 : Int), v20 = .int .i64 x20_5 ∧ Aside0 (spec_l4Rank.l4 kq a0 a1 a2 a4 x11_5 x12_1 x13_1 x17_4 (rd x11_4 (ji37)) (rd x11_4 (ji40)) x20_5 = some r) ∧ Aside0 (kq ≤ k4) ∧ Aside0 (Kd.R (Kd.int .i64) 3 w' w.heap.size (fun _ => True) (.slice (some ⟨goZ, 0, none⟩) x11_4.length co43) x11_5) ∧ Aside0 (Below w.heap.size w w'))
                   case atStart => exact ⟨(x11_4), (0), p7, H', ⟨Nat.le_refl _⟩, ⟨pR HO_11.out⟩, ⟨pB⟩⟩
                   case round =>
                    clear H'
                    try clear c3
                    try clear c6
                    try clear c10
                    try clear c10b0
                    try clear c12
                    try clear c21
                    try clear c21b0
                    try clear c22
                    try clear c22b0
                    try clear c36
                    try clear c36b0
                    try clear c38
                    try clear c38b0
                    try clear c39
                    try clear c39b0
                    try clear c41
                    try clear c41b0
                    try clear c42
                    try clear c42b0
                    try clear hxE_0
                    try clear hxF_0
                    try clear pE
                    try clear pF
                    try clear qE
                    try clear qF
                    obtain ⟨x11_5, x20_5, rfl, HA, HK5, HO_11, HB⟩ := hrel
                    have hl11_5 := (Kd.R_reads' HO_11.out).1
                    rw [hl11_5] at HO_11
                    (try simp only [hl11_5])
                    cases gk with
                    | zero => exact absurd HA.out (by simp [spec_l4Rank.l4])
                    | succ k5 =>
                     have H := HA.out
                     clear HA
                     simp only [spec_l4Rank.l4] at H
                     by_cases c44 : x20_5 < a2
                     ·rw [if_pos c44] at H
                      have c44b0 : decide (x20_5 < a2) = true := decide_eq_true c44
                      clear c44
                      obtain ⟨ji45, hji45⟩ : ∃ j_ : Int, (wrap64 ((wrap64 (x17_4 * a2)) + x20_5)) = j_ := ⟨_, rfl⟩
                      replace H : (if 0 ≤ (ji45) then (if (ji45) < (x11_5.length : Int) then (if 0 ≤ (wrap64 ((wrap64 (x12_1 * a2)) + x20_5)) then (if (wrap64 ((wrap64 (x12_1 * a2)) + x20_5)) < (x11_5.length : Int) then (if a0 = 0 then (none) else (spec_l4Rank.l4 k5 a0 a1 a2 a4 (x11_5.set ((ji45) : Int).toNat (Int.tmod (wrap64 ((Int.tmod (wrap64 ((wrap64 ((rd x11_5 (ji45)) * (rd x11_4 (ji40)))) - (wrap64 ((rd x11_5 (wrap64 ((wrap64 (x12_1 * a2)) + x20_5))) * (rd x11_4 (ji37)))))) a0) + a0)) a0)) x12_1 x13_1 x17_4 (rd x11_4 (ji37)) (rd x11_4 (ji40)) (wrap64 (x20_5 + 1)))) else (none)) else (none)) else (none)) else (none)) = some r := jR hji45 H
                      have hji45w : (IntKind.i64.wrap ((wrap64 (x17_4 * a2)) + x20_5)) = ji45 := (i64_w _).trans hji45
                      by_cases c46 : 0 ≤ (ji45)
                      ·rw [if_pos c46] at H
                       have c46b0 : decide (0 ≤ (ji45)) = true := decide_eq_true c46
                       clear c46
                       by_cases c47 : (ji45) < (x11_5.length : Int)
                       ·rw [if_pos c47] at H
                        have c47b0 : decide ((ji45) < (x11_5.length : Int)) = true := decide_eq_true c47
                        clear c47
                        obtain ⟨ji48, hji48⟩ : ∃ j_ : Int, (wrap64 ((wrap64 (x12_1 * a2)) + x20_5)) = j_ := ⟨_, rfl⟩
                        replace H : (if 0 ≤ (ji48) then (if (ji48) < (x11_5.length : Int) then (if a0 = 0 then (none) else (spec_l4Rank.l4 k5 a0 a1 a2 a4 (x11_5.set ((ji45) : Int).toNat (Int.tmod (wrap64 ((Int.tmod (wrap64 ((wrap64 ((rd x11_5 (ji45)) * (rd x11_4 (ji40)))) - (wrap64 ((rd x11_5 (ji48)) * (rd x11_4 (ji37)))))) a0) + a0)) a0)) x12_1 x13_1 x17_4 (rd x11_4 (ji37)) (rd x11_4 (ji40)) (wrap64 (x20_5 + 1)))) else (none)) else (none)) = some r := jR hji48 H
                        have hji48w : (IntKind.i64.wrap ((wrap64 (x12_1 * a2)) + x20_5)) = ji48 := (i64_w _).trans hji48
                        by_cases c49 : 0 ≤ (ji48)
                        ·rw [if_pos c49] at H
                         have c49b0 : decide (0 ≤ (ji48)) = true := decide_eq_true c49
                         clear c49
                         by_cases c50 : (ji48) < (x11_5.length : Int)
                         ·rw [if_pos c50] at H
                          have c50b0 : decide ((ji48) < (x11_5.length : Int)) = true := decide_eq_true c50
                          clear c50
                          by_cases c51 : a0 = 0
                          ·rw [if_pos c51] at H
                           exact absurd H (by simp)
                          ·rw [if_neg c51] at H
                           have c51b0 : (a0 == 0) = false := beq_eq_false_iff_ne.mpr c51
                           have c51b1 : (a0 != 0) = true := bne_iff_ne.mpr c51
                           obtain ⟨yP, hyP⟩ : ∃ y_ : List Int, y_ = (x11_5.set ((ji45) : Int).toNat (Int.tmod (wrap64 ((Int.tmod (wrap64 ((wrap64 ((rd x11_5 (ji45)) * (rd x11_4 (ji40)))) - (wrap64 ((rd x11_5 (ji48)) * (rd x11_4 (ji37)))))) a0) + a0)) a0)) := ⟨_, rfl⟩
                           replace H : (spec_l4Rank.l4 k5 a0 a1 a2 a4 yP x12_1 x13_1 x17_4 (rd x11_4 (ji37)) (rd x11_4 (ji40)) (wrap64 (x20_5 + 1))) = some r := yR hyP H
                           have NyP := Aside0.mk hyP
                           clear hyP
                           have H' := Aside0.mk H
                           clear H
                           try go_wp2
                           replace HO_11 := Aside0.mk (Kd.R_drew HO_11.out)
                           replace HB := Aside0.mk (below_drew1 HB.out)
                           have pG : 0 ≤ ((ji45) : Int) := oD
                           have qG : (ji45) < (x11_5.length : Int) := oD
                           obtain ⟨adG, eG, hxG_0⟩ := Kd.at_int (Kd.R_reads' HO_11.out).2.2 (ji45) pG qG
                           cases eG
                           replace pG := eq_true pG
                           replace qG := eq_true qG
                           have pI : 0 ≤ ((ji48) : Int) := oD
                           have qI : (ji48) < (x11_5.length : Int) := oD
                           obtain ⟨adI, eI, hxI_0⟩ := Kd.at_int (Kd.R_reads' HO_11.out).2.2 (ji48) pI qI
                           cases eI
                           replace pI := eq_true pI
                           replace qI := eq_true qI
                           have p52 : 0 ≤ ((ji45) : Int) := oD
                           have q52 : ((ji45) : Int) < ((x11_5.length : Int) : Int) := oD
                           obtain ⟨go52, co52, eo52, gb52, gl52, cl52, HG52⟩ := Kd.R_form HO_11.out (by omega)
                           obtain rfl : go52 = goZ := by cases eo52; rfl
                           obtain rfl : co52 = co43 := by cases eo52; rfl
                           clear eo52
                           have GB52 := Aside0.mk gb52
                           have GG52 := Aside0.mk HG52
                           clear gb52 gl52 HG52
                           (first | simp only [add_plain] at hxE_0 | skip)
                           (first | simp only [add_plain] at hxF_0 | skip)
                           (first | simp only [add_plain] at hxG_0 | skip)
                           (first | simp only [add_plain] at hxI_0 | skip)
                           obtain ⟨hx52_0, hf52_0⟩ := Kd.R_celln 0 HO_11.out ((ji45) : Int) p52 q52
                           replace p52 := eq_true p52
                           replace q52 := eq_true q52
                           have HP54 := Kd.R_putn HO_11.out ((ji45) : Int) (Int.tmod (wrap64 ((Int.tmod (wrap64 ((wrap64 ((rd x11_5 (ji45)) * (rd x11_4 (ji40)))) - (wrap64 ((rd x11_5 (ji48)) * (rd x11_4 (ji37)))))) a0) + a0)) a0)
                           rw [← NyP.out] at HP54
                           have HQ54 := Aside0.mk HP54
                           clear HP54
                           refine start_ (n := 35) (S := fun w' => w'.cell? ⟨go52, ((ji45)).toNat, none⟩ = some (.int .i64 (rd x11_5 (ji45))) ∧ w'.cell? ⟨go52, ((ji48)).toNat, none⟩ = some (.int .i64 (rd x11_5 (ji48)))) (ds := [34]) #[false, false, false, false, false, false, false, false, false, false, false, false, false, false, false, false, false, false, false, false, false, false, false, false, false, false, false, false, false, false, false, false, false, false, false] kr rfl rfl ⟨hxG_0, hxI_0⟩ (fun hHeld => ?_); refine with_tabW spec_l4Rank.tab25 spec_l4Rank.bits25 (fun HT_ HW_ => ?_)
                           generalize wr.drew = w53 at HO_11 HB GG52 HQ54 hf52_0 hxG_0 hxI_0 hx52_0 hHeld ⊢
                           refine pA 0 117 (any_of HT_.out kr) ?_
                           refine pA 1 118 (any_of HT_.out kr) ?_
                           refine pA 2 119 (any_of HT_.out kr) ?_
                           refine pA 3 120 (any_of HT_.out kr) ?_
                           refine pA 4 121 (any_of HT_.out kr) ?_
                           refine pA 5 122 (any_of HT_.out kr) ?_
                           refine pA 6 123 (any_of HT_.out kr) ?_
                           refine pA 7 124 (any_of HT_.out kr) ?_
                           refine pA 8 125 (any_of HT_.out kr) ?_
                           refine pA 9 126 (any_of HT_.out kr) ?_
                           refine pA 10 127 (any_of HT_.out kr) ?_
                           refine pA 11 128 (any_of HT_.out kr) ?_
                           refine pA 12 129 (any_of HT_.out kr) ?_
                           refine pA 14 131 (any_of HT_.out kr) ?_
                           refine pA 16 133 (any_of HT_.out kr) ?_
                           refine pA 17 134 (any_of HT_.out kr) ?_
                           refine pA 18 135 (any_of HT_.out kr) ?_
                           refine pA 19 136 (any_of HT_.out kr) ?_
                           refine pA 20 137 (any_of HT_.out kr) ?_
                           refine pA 21 138 (any_of HT_.out kr) ?_
                           refine pA 22 139 (any_of HT_.out kr) ?_
                           refine pA 24 141 (any_of HT_.out kr) ?_
                           refine pA 27 144 (any_of HT_.out kr) ?_
                           refine pA 29 146 (any_of HT_.out kr) ?_
                           refine pA 31 148 (any_of HT_.out kr) ?_
                           refine tA2 13 130 (take_ofW HT_.out HW_.out kr) hHeld ?_
                           refine pA 15 132 (any_of HT_.out kr) ?_
                           refine tA2 23 140 (take_ofW HT_.out HW_.out kr) hHeld ?_
                           refine pA 25 142 (any_of HT_.out kr) ?_
                           refine pA 26 143 (any_of HT_.out kr) ?_
                           refine pA 28 145 (any_of HT_.out kr) ?_
                           refine pA 30 147 (any_of HT_.out kr) ?_
                           refine pA 32 149 (any_of HT_.out kr) ?_
                           refine pA 33 150 (any_of HT_.out kr) ?_
                           refine last_ (i := 34) (N := none) #[true, true, true, true, true, true, true, true, true, true, true, true, true, true, true, true, true, true, true, true, true, true, true, true, true, true, true, true, true, true, true, true, true, true, true] rfl rfl (one_of HT_.out kr) (by decide) (fun K hK => ?_)
                           refine skip_ (w1 := ?_) (by rfl) rfl ?_ ?_
                           rotate_left
                           ·go_simp
                            rfl
                           refine hK.out _ _ ?_
                           clear hK K
                           refine done_ (done_of HT_.out kr) ?_
                           try go_wp2
                           (try simp only [← hl11_5])
                           go_roundg k5
                           case measure => have := HK1.out; have := HJ12.out; have := HK3.out; have := HK4.out; have := HK5.out; omega
                           case rel => exact ⟨(yP), (wrap64 (x20_5 + 1)), p7, H', ⟨by have := HK1.out; have := HJ12.out; have := HK3.out; have := HK4.out; have := HK5.out; omega⟩, ⟨by (try simp only [hl11_5]); (with_reducible repeat (first | apply Kd.R_alloc | apply Kd.R_drewN | apply Kd.R_drew)); exact HQ54.out⟩, ⟨by repeat (first | (with_reducible first | exact HB.out | apply below_alloc | apply pw_below_drewN | apply below_drew1 | refine below_set ?_ GB52.out) | exact HB.out)⟩⟩
                         ·rw [if_neg c50] at H
                          exact absurd H (by simp)
                        ·rw [if_neg c49] at H
                         exact absurd H (by simp)
                       ·rw [if_neg c47] at H
                        exact absurd H (by simp)
                      ·rw [if_neg c46] at H
                       exact absurd H (by simp)
                     ·rw [if_neg c44] at H
                      have c44b0 : decide (x20_5 < a2) = false := decide_eq_false c44
                      clear c44
                      have H' := Aside0.mk H
                      clear H
                      go_wp2
                      (try simp only [← hl11_5])
                      go_roundg k5
                      case measure => have := HK1.out; have := HJ12.out; have := HK3.out; have := HK4.out; have := HK5.out; omega
                      case rel => exact ⟨(x11_5), (wrap64 (x17_4 + 1)), p7, H', ⟨by have := HK1.out; have := HJ12.out; have := HK3.out; have := HK4.out; have := HK5.out; omega⟩, ⟨by (try simp only [hl11_5]); (with_reducible repeat (first | apply Kd.R_alloc | apply Kd.R_drewN | apply Kd.R_drew)); exact HO_11.out⟩, ⟨pB⟩⟩
                  ·rw [if_neg c42] at H
                   exact absurd H (by simp)
                 ·rw [if_neg c41] at H
                  exact absurd H (by simp)
                ·rw [if_neg c39] at H
                 exact absurd H (by simp)
               ·rw [if_neg c38] at H
                exact absurd H (by simp)
              ·rw [if_neg c36] at H
               have c36b0 : decide (x17_4 < a1) = false := decide_eq_false c36
               clear c36
               have H' := Aside0.mk H
               clear H
               go_wp2
               go_roundg k4
               case measure => have := HK1.out; have := HJ12.out; have := HK3.out; have := HK4.out; omega
               case rel => exact ⟨(x11_4), (wrap64 (x12_1 + 1)), (wrap64 (x13_1 + 1)), p7, p7, H', ⟨by have := HK1.out; have := HJ12.out; have := HK3.out; have := HK4.out; omega⟩, ⟨pR HO_11.out⟩, ⟨pB⟩⟩
     ·replace c12 := Bool.eq_false_iff.mpr c12
      subst c12
      replace H := iN H
      have H' := Aside0.mk H
      clear H
      go_wp2_with (first | ((with_reducible refine gate_callee (f := 40) rfl ?_); refine goesL_ (some 31) rfl rfl Try.func40 kr rfl #[.int .i64 a4, .int .i64 x13_1] rfl p5 ?_; (with_reducible refine (spec_l2Has.calls a4 x13_1 false _ A11.out).mono ?_); rintro e w' ⟨rfl, ⟨nd, rfl⟩⟩; refine ⟨_, rfl, ?_⟩))
      go_roundg k1
      case measure => have := HK1.out; omega
      case rel => exact ⟨(x11_1), (x12_1), (wrap64 (x13_1 + 1)), p7, p7, H', ⟨by have := HK1.out; omega⟩, ⟨pR HO_11.out⟩, ⟨pB⟩⟩
    ·rw [if_neg c10] at H
     have c10b0 : decide (x13_1 < a2) = false := decide_eq_false c10
     clear c10
     obtain rfl := Option.some.inj H
     go_wp2
     go_ret
     exact ⟨p8, pB⟩
 ·rw [if_neg c6] at H
  exact absurd H (by simp)
end Go.Proofs.Ytbhckhblonkajaa.Q
