/- Part of a proof: contracts and lemmas that the row's text uses; joined by a program. -/
import Derived.Test.YtbhckhblonkajaaC04
import Derived.Test.YtbhckhblonkajaaC15
import Derived.Test.YtbhckhblonkajaaC17
set_option linter.unusedVariables false
set_option linter.unusedSimpArgs false
namespace Go.Proofs.Ytbhckhblonkajaa.Q
open Go.RowKit Go.Proofs.YtbhckhblonkajaaW.PrintWords Go.Proofs.YtbhckhblonkajaaW.PrintLast Go.Proofs.YtbhckhblonkajaaW.PrintMore
attribute [local go_sem] max2_int min2_int max_two min_two max_three min_three max_four min_four
mutual
def spec_FirstFailure.l0 : Nat → Int → Int → List Int → Option (Int × Int × Int × Bool)
 | 0, _, _, _ => none
 | k + 1, x4, x116000, x116001 => if x4 < (x116001.length : Int) then (spec_FirstFailure.l1 k x4 0 x116000 x116001) else (some (0, 0, 0, false))
def spec_FirstFailure.l1 : Nat → Int → Int → Int → List Int → Option (Int × Int × Int × Bool)
 | 0, _, _, _, _ => none
 | k + 1, x4, x5, x116000, x116001 => if x5 < (x116001.length : Int) then (spec_FirstFailure.l2 k x4 x5 0 x116000 x116001) else (spec_FirstFailure.l0 k (wrap64 (x4 + 1)) x116000 x116001)
def spec_FirstFailure.l2 : Nat → Int → Int → Int → Int → List Int → Option (Int × Int × Int × Bool)
 | 0, _, _, _, _, _ => none
 | k + 1, x4, x5, x6, x116000, x116001 => if x6 < x116000 then (if 0 ≤ x4 then (if x4 < (x116001.length : Int) then (if 0 ≤ x5 then (if x5 < (x116001.length : Int) then ((spec_l2Has.f (rd x116001 x4) x6).bind fun t120 => (if t120 = true then ((spec_l2Has.f (rd x116001 x5) x6).bind fun t121 => (if t121 = true then (spec_FirstFailure.l2 k x4 x5 (wrap64 (x6 + 1)) x116000 x116001) else ((spec_l4Exchange.f k x116000 x116001 (rd x116001 x4) (rd x116001 x5) x6).bind fun t122 => (if t122 = true then (spec_FirstFailure.l2 k x4 x5 (wrap64 (x6 + 1)) x116000 x116001) else (some (rd x116001 x4, rd x116001 x5, x6, true)))))) else (spec_FirstFailure.l2 k x4 x5 (wrap64 (x6 + 1)) x116000 x116001))) else (none)) else (none)) else (none)) else (none)) else (spec_FirstFailure.l1 k x4 (wrap64 (x5 + 1)) x116000 x116001)
end
def spec_FirstFailure.f (k : Nat) (a0_0 : Int) (l0_1 : List Int) : Option (Int × Int × Int × Bool) := (spec_IsFamily.f k a0_0 l0_1).bind fun t117 => (if t117 = true then (spec_FirstFailure.l0 k 0 a0_0 l0_1) else (some (0, 0, 0, false)))
set_option maxHeartbeats 8000000 in
set_option maxRecDepth 100000 in
theorem spec_FirstFailure.calls (k : Nat) (a0_0 : Int) (A0_1 : Option Addr) (c0_1 : Nat) (l0_1 : List Int) (r1 : Int) (r2 : Int) (r3 : Int) (r4 : Bool) (w : World) (hr0_1 : Kd.C (Kd.int .i64) w A0_1 l0_1.length l0_1) (hc0_1 : l0_1.length ≤ c0_1) (h : spec_FirstFailure.f k a0_0 l0_1 = some (r1, r2, r3, r4)) :
  Calls Try.prog 37 #[.agg #[.int .i64 a0_0, .slice A0_1 l0_1.length c0_1]] w fun e w' => e = .returned (.tuple #[.agg #[.int .i64 r1, .int .i64 r2, .int .i64 r3], .bool r4]) ∧ Below w.heap.size w w' := by
 have hu27 := Try.underlying27
 have hu50 := Try.underlying50
 have HR0_1 := Aside0.mk hr0_1
 have HC0_1 := Aside0.mk hc0_1
 clear hr0_1 hc0_1
 have HB := Aside0.mk (Below.refl w.heap.size w)
 have H : ((spec_IsFamily.f k a0_0 l0_1).bind fun t117 => (if t117 = true then (spec_FirstFailure.l0 k 0 a0_0 l0_1) else (some (0, 0, 0, false)))) = some (r1, r2, r3, r4) := h
 clear h
 replace H := bS H
 obtain ⟨t117, A2, H⟩ := H
 by_cases c3 : t117 = true
 ·subst c3
  replace H := iP H
  have H' := Aside0.mk H
  clear H
  go_enter Try.func37, Try.ntmps37
  go_wp2_with (first | ((with_reducible refine gate_dst (N := 1) rfl ?_); refine box_event ?hg (N := 1) ?hd (cs := #[.int .i64 a0_0, .slice A0_1 l0_1.length c0_1]) (t := 27) ?hr ?_; (case hd => rfl); (case hg => rfl); (case hr => first | (go_simp; done) | (go_simp; rfl)); intro gb115 hg w4 hbox hb; have BK115 := Aside0.mk (hbox); have GW115 := Aside0.mk (bZ (w := w) hg); have GE115 := Aside0.mk (bZ (w := w) hg); replace HB := Aside0.mk (below_step pB hb); clear hb hbox hg) | ((with_reducible refine gate_dst (N := 2) rfl ?_); refine box_event ?hg (N := 2) ?hd (cs := #[.int .i64 0, .int .i64 0, .int .i64 0]) (t := 50) ?hr ?_; (case hd => rfl); (case hg => rfl); (case hr => first | (go_simp; done) | (go_simp; rfl)); intro gb116 hg w5 hbox hb; have BK116 := Aside0.mk (hbox); have GW116 := Aside0.mk (bZ (w := w) hg); have GE116 := Aside0.mk (bZ (w := w) hg); replace HB := Aside0.mk (below_step pB hb); have NB115_116 := Aside0.mk (bL BK115.out hg); have NB116_115 := Aside0.mk (bG BK115.out hg); replace BK115 := Aside0.mk (bB BK115.out hb); clear hb hbox hg; have hnb6 := NB115_116.out; have hnc6 := NB116_115.out; obtain ⟨hcz7_0, hcz7_1, hfz7_0, hfz7_1⟩ := bc2 BK115.out) | ((with_reducible refine gate_callee (f := 38) rfl ?_); refine goesL_ (some 13) rfl rfl Try.func38 kr rfl #[.int .i64 a0_0, .slice A0_1 l0_1.length c0_1] rfl p5 ?_; (with_reducible refine (spec_IsFamily.calls k a0_0 _ _ l0_1 true _ ?side1 ?side2 A2.out).mono ?_); (case side1 => exact pC (Kd.C_below HR0_1.out HB.out)); (case side2 => exact HC0_1.out); rintro e w' ⟨rfl, ⟨nd, rfl⟩⟩; refine ⟨_, rfl, ?_⟩))
  go_loopg [4] k (fun kq v4 w' => ∃ (x4_1 : Int) (x117000_1 : Int) (x117001_1 : Int) (x117002_1 : Int), v4 = .int .i64 x4_1 ∧ Aside0 (spec_FirstFailure.l0 kq x4_1 a0_0 l0_1 = some (r1, r2, r3, r4)) ∧ Aside0 (kq ≤ k) ∧ Aside0 (w'.heap[gb115]? = some (.cells #[.int .i64 a0_0, (.slice A0_1 l0_1.length c0_1)] 27 (0, 0))) ∧ Aside0 (w'.heap[gb116]? = some (.cells #[.int .i64 x117000_1, .int .i64 x117001_1, .int .i64 x117002_1] 50 (0, 0))) ∧ Aside0 (Below w.heap.size w w'))
  case atStart => exact ⟨(0), (0), (0), (0), p7, H', ⟨Nat.le_refl _⟩, ⟨pK BK115.out⟩, ⟨pK BK116.out⟩, ⟨pB⟩⟩
  case round =>
   clear H'
   try clear c3
   try clear hcz7_0
   try clear hcz7_1
   try clear hfz7_0
   try clear hfz7_1
   obtain ⟨x4_1, x117000_1, x117001_1, x117002_1, rfl, HA, HK1, BK115, BK116, HB⟩ := hrel
   cases gk with
   | zero => exact absurd HA.out (by simp [spec_FirstFailure.l0])
   | succ k1 =>
    have H := HA.out
    clear HA
    simp only [spec_FirstFailure.l0] at H
    by_cases c8 : x4_1 < (l0_1.length : Int)
    ·rw [if_pos c8] at H
     have c8b0 : decide (x4_1 < (l0_1.length : Int)) = true := decide_eq_true c8
     clear c8
     have H' := Aside0.mk H
     clear H
     have hnb9 := NB115_116.out
     have hnc9 := NB116_115.out
     obtain ⟨hcz10_0, hcz10_1, hfz10_0, hfz10_1⟩ := bc2 BK115.out
     go_wp2
     go_loopg [5] k1 (fun kq v5 w' => ∃ (x5_2 : Int) (x117000_2 : Int) (x117001_2 : Int) (x117002_2 : Int), v5 = .int .i64 x5_2 ∧ Aside0 (spec_FirstFailure.l1 kq x4_1 x5_2 a0_0 l0_1 = some (r1, r2, r3, r4)) ∧ Aside0 (kq ≤ k1) ∧ Aside0 (w'.heap[gb115]? = some (.cells #[.int .i64 a0_0, (.slice A0_1 l0_1.length c0_1)] 27 (0, 0))) ∧ Aside0 (w'.heap[gb116]? = some (.cells #[.int .i64 x117000_2, .int .i64 x117001_2, .int .i64 x117002_2] 50 (0, 0))) ∧ Aside0 (Below w.heap.size w w'))
     case atStart => exact ⟨(0), (x117000_1), (x117001_1), (x117002_1), p7, H', ⟨Nat.le_refl _⟩, ⟨pK BK115.out⟩, ⟨pK BK116.out⟩, ⟨pB⟩⟩
     case round =>
      clear H'
      try clear c3
      try clear c8
      try clear c8b0
      try clear hcz10_0
      try clear hcz10_1
      try clear hcz7_0
      try clear hcz7_1
      try clear hfz10_0
      try clear hfz10_1
      try clear hfz7_0
      try clear hfz7_1
      obtain ⟨x5_2, x117000_2, x117001_2, x117002_2, rfl, HA, HK2, BK115, BK116, HB⟩ := hrel
      cases gk with
      | zero => exact absurd HA.out (by simp [spec_FirstFailure.l1])
      | succ k2 =>
       have H := HA.out
       clear HA
       simp only [spec_FirstFailure.l1] at H
       by_cases c11 : x5_2 < (l0_1.length : Int)
       ·rw [if_pos c11] at H
        have c11b0 : decide (x5_2 < (l0_1.length : Int)) = true := decide_eq_true c11
        clear c11
        have H' := Aside0.mk H
        clear H
        have hnb12 := NB115_116.out
        have hnc12 := NB116_115.out
        obtain ⟨hcz13_0, hcz13_1, hfz13_0, hfz13_1⟩ := bc2 BK115.out
        go_wp2
        go_loopg [6] k2 (fun kq v6 w' => ∃ (x6_3 : Int) (x117000_3 : Int) (x117001_3 : Int) (x117002_3 : Int), v6 = .int .i64 x6_3 ∧ Aside0 (spec_FirstFailure.l2 kq x4_1 x5_2 x6_3 a0_0 l0_1 = some (r1, r2, r3, r4)) ∧ Aside0 (kq ≤ k2) ∧ Aside0 (w'.heap[gb115]? = some (.cells #[.int .i64 a0_0, (.slice A0_1 l0_1.length c0_1)] 27 (0, 0))) ∧ Aside0 (w'.heap[gb116]? = some (.cells #[.int .i64 x117000_3, .int .i64 x117001_3, .int .i64 x117002_3] 50 (0, 0))) ∧ Aside0 (Below w.heap.size w w'))
        case atStart => exact ⟨(0), (x117000_2), (x117001_2), (x117002_2), p7, H', ⟨Nat.le_refl _⟩, ⟨pK BK115.out⟩, ⟨pK BK116.out⟩, ⟨pB⟩⟩
        case round =>
         clear H'
         try clear c3
         try clear c8
         try clear c8b0
         try clear c11
         try clear c11b0
         try clear hcz10_0
         try clear hcz10_1
         try clear hcz13_0
         try clear hcz13_1
         try clear hcz7_0
         try clear hcz7_1
         try clear hfz10_0
         try clear hfz10_1
         try clear hfz13_0
         try clear hfz13_1
         try clear hfz7_0
         try clear hfz7_1
         obtain ⟨x6_3, x117000_3, x117001_3, x117002_3, rfl, HA, HK3, BK115, BK116, HB⟩ := hrel
         cases gk with
         | zero => exact absurd HA.out (by simp [spec_FirstFailure.l2])
         | succ k3 =>
          have H := HA.out
          clear HA
          simp only [spec_FirstFailure.l2] at H
          by_cases c14 : x6_3 < a0_0
          ·rw [if_pos c14] at H
           have c14b0 : decide (x6_3 < a0_0) = true := decide_eq_true c14
           clear c14
           by_cases c15 : 0 ≤ x4_1
           ·rw [if_pos c15] at H
            have c15b0 : decide (0 ≤ x4_1) = true := decide_eq_true c15
            clear c15
            by_cases c16 : x4_1 < (l0_1.length : Int)
            ·rw [if_pos c16] at H
             have c16b0 : decide (x4_1 < (l0_1.length : Int)) = true := decide_eq_true c16
             clear c16
             by_cases c17 : 0 ≤ x5_2
             ·rw [if_pos c17] at H
              have c17b0 : decide (0 ≤ x5_2) = true := decide_eq_true c17
              clear c17
              by_cases c18 : x5_2 < (l0_1.length : Int)
              ·rw [if_pos c18] at H
               have c18b0 : decide (x5_2 < (l0_1.length : Int)) = true := decide_eq_true c18
               clear c18
               replace H := bS H
               obtain ⟨t120, A19, H⟩ := H
               by_cases c20 : t120 = true
               ·subst c20
                replace H := iP H
                replace H := bS H
                obtain ⟨t121, A21, H⟩ := H
                by_cases c22 : t121 = true
                ·subst c22
                 replace H := iP H
                 have H' := Aside0.mk H
                 clear H
                 have hnb23 := NB115_116.out
                 have hnc23 := NB116_115.out
                 obtain ⟨hcz24_0, hcz24_1, hfz24_0, hfz24_1⟩ := bc2 BK115.out
                 have p118 : 0 ≤ (x4_1 : Int) := oD
                 have q118 : x4_1 < (l0_1.length : Int) := oD
                 obtain ⟨ad118, e118, hx118_0⟩ := Kd.at_int HR0_1.out x4_1 p118 q118
                 cases e118
                 replace hx118_0 := (HB.out.cell (World.block_lt_of_cell? w _ hx118_0)).trans hx118_0
                 replace p118 := eq_true p118
                 replace q118 := eq_true q118
                 have p119 : 0 ≤ (x5_2 : Int) := oD
                 have q119 : x5_2 < (l0_1.length : Int) := oD
                 obtain ⟨ad119, e119, hx119_0⟩ := Kd.at_int HR0_1.out x5_2 p119 q119
                 obtain rfl : ad118 = ad119 := (by injection e119)
                 replace hx119_0 := (HB.out.cell (World.block_lt_of_cell? w _ hx119_0)).trans hx119_0
                 replace p119 := eq_true p119
                 replace q119 := eq_true q119
                 go_wp2_with (first | ((with_reducible refine gate_callee (f := 40) rfl ?_); refine goesL_ (some 48) rfl rfl Try.func40 kr rfl #[.int .i64 (rd l0_1 x4_1), .int .i64 x6_3] rfl p5 ?_; (with_reducible refine (spec_l2Has.calls (rd l0_1 x4_1) x6_3 true _ A19.out).mono ?_); rintro e w' ⟨rfl, ⟨nd, rfl⟩⟩; refine ⟨_, rfl, ?_⟩) | (go_at_call 40; (with_reducible refine (spec_l2Has.calls (rd l0_1 x5_2) x6_3 true _ A21.out).mono ?_); rintro e w' ⟨rfl, ⟨nd, rfl⟩⟩))
                 go_roundg k3
                 case measure => have := HK1.out; have := HK2.out; have := HK3.out; omega
                 case rel => exact ⟨(wrap64 (x6_3 + 1)), (x117000_3), (x117001_3), (x117002_3), p7, H', ⟨by have := HK1.out; have := HK2.out; have := HK3.out; omega⟩, ⟨pK BK115.out⟩, ⟨pK BK116.out⟩, ⟨pB⟩⟩
                ·replace c22 := Bool.eq_false_iff.mpr c22
                 subst c22
                 replace H := iN H
                 replace H := bS H
                 obtain ⟨t122, A25, H⟩ := H
                 by_cases c26 : t122 = true
                 ·subst c26
                  replace H := iP H
                  have H' := Aside0.mk H
                  clear H
                  have hnb27 := NB115_116.out
                  have hnc27 := NB116_115.out
                  obtain ⟨hcz28_0, hcz28_1, hfz28_0, hfz28_1⟩ := bc2 BK115.out
                  have p118 : 0 ≤ (x4_1 : Int) := oD
                  have q118 : x4_1 < (l0_1.length : Int) := oD
                  obtain ⟨ad118, e118, hx118_0⟩ := Kd.at_int HR0_1.out x4_1 p118 q118
                  cases e118
                  replace hx118_0 := (HB.out.cell (World.block_lt_of_cell? w _ hx118_0)).trans hx118_0
                  replace p118 := eq_true p118
                  replace q118 := eq_true q118
                  have p119 : 0 ≤ (x5_2 : Int) := oD
                  have q119 : x5_2 < (l0_1.length : Int) := oD
                  obtain ⟨ad119, e119, hx119_0⟩ := Kd.at_int HR0_1.out x5_2 p119 q119
                  obtain rfl : ad118 = ad119 := (by injection e119)
                  replace hx119_0 := (HB.out.cell (World.block_lt_of_cell? w _ hx119_0)).trans hx119_0
                  replace p119 := eq_true p119
                  replace q119 := eq_true q119
                  go_wp2_with (first | ((with_reducible refine gate_callee (f := 40) rfl ?_); refine goesL_ (some 48) rfl rfl Try.func40 kr rfl #[.int .i64 (rd l0_1 x4_1), .int .i64 x6_3] rfl p5 ?_; (with_reducible refine (spec_l2Has.calls (rd l0_1 x4_1) x6_3 true _ A19.out).mono ?_); rintro e w' ⟨rfl, ⟨nd, rfl⟩⟩; refine ⟨_, rfl, ?_⟩) | (go_at_call 40; (with_reducible refine (spec_l2Has.calls (rd l0_1 x5_2) x6_3 false _ A21.out).mono ?_); rintro e w' ⟨rfl, ⟨nd, rfl⟩⟩) | (go_at_call 51; (with_reducible refine (spec_l4Exchange.calls k3 a0_0 _ _ l0_1 (rd l0_1 x4_1) (rd l0_1 x5_2) x6_3 true _ ?side1 ?side2 A25.out).mono ?_); (case side1 => repeat (first | exact (Kd.C_below HR0_1.out pB) | (with_reducible refine Kd.C_alloc ?_ _) | (with_reducible refine Kd.C_drewN ?_ _) | (with_reducible refine Kd.C_drew ?_))); (case side2 => exact HC0_1.out); rintro e w29 ⟨rfl, hb⟩; replace BK115 := Aside0.mk (bB BK115.out hb); replace BK116 := Aside0.mk (bB BK116.out hb); replace HB := Aside0.mk (below_step pB hb); (try clear hb); (try clear hb2); (try clear hk); (try clear hi)))
                  go_roundg k3
                  case measure => have := HK1.out; have := HK2.out; have := HK3.out; omega
                  case rel => exact ⟨(wrap64 (x6_3 + 1)), (x117000_3), (x117001_3), (x117002_3), p7, H', ⟨by have := HK1.out; have := HK2.out; have := HK3.out; omega⟩, ⟨pK BK115.out⟩, ⟨pK BK116.out⟩, ⟨pB⟩⟩
                 ·replace c26 := Bool.eq_false_iff.mpr c26
                  subst c26
                  replace H := iN H
                  simp only [Option.some.injEq, Prod.mk.injEq] at H
                  obtain ⟨rfl, rfl, rfl, rfl⟩ := H
                  have hnb30 := NB115_116.out
                  have hnc30 := NB116_115.out
                  obtain ⟨hcz31_0, hcz31_1, hfz31_0, hfz31_1⟩ := bc2 BK115.out
                  have p118 : 0 ≤ (x4_1 : Int) := oD
                  have q118 : x4_1 < (l0_1.length : Int) := oD
                  obtain ⟨ad118, e118, hx118_0⟩ := Kd.at_int HR0_1.out x4_1 p118 q118
                  cases e118
                  replace hx118_0 := (HB.out.cell (World.block_lt_of_cell? w _ hx118_0)).trans hx118_0
                  replace p118 := eq_true p118
                  replace q118 := eq_true q118
                  have p119 : 0 ≤ (x5_2 : Int) := oD
                  have q119 : x5_2 < (l0_1.length : Int) := oD
                  obtain ⟨ad119, e119, hx119_0⟩ := Kd.at_int HR0_1.out x5_2 p119 q119
                  obtain rfl : ad118 = ad119 := (by injection e119)
                  replace hx119_0 := (HB.out.cell (World.block_lt_of_cell? w _ hx119_0)).trans hx119_0
                  replace p119 := eq_true p119
                  replace q119 := eq_true q119
                  go_wp2_with (first | ((with_reducible refine gate_callee (f := 40) rfl ?_); refine goesL_ (some 48) rfl rfl Try.func40 kr rfl #[.int .i64 (rd l0_1 x4_1), .int .i64 x6_3] rfl p5 ?_; (with_reducible refine (spec_l2Has.calls (rd l0_1 x4_1) x6_3 true _ A19.out).mono ?_); rintro e w' ⟨rfl, ⟨nd, rfl⟩⟩; refine ⟨_, rfl, ?_⟩; (try (rw [drewN_self wr]; generalize hq_ : World.drewN wr _ = wr; have n0_ : Aside0 (wr.heap[gb115]? = some (.cells #[.int .i64 a0_0, .slice (some ad118) l0_1.length c0_1] 27 (0, 0))) := ⟨by rw [← hq_]; exact (pK BK115.out)⟩; have n1_ : Aside0 (wr.heap[gb116]? = some (.cells #[.int .i64 x117000_3, .int .i64 x117001_3, .int .i64 x117002_3] 50 (0, 0))) := ⟨by rw [← hq_]; exact (pK BK116.out)⟩; have n2_ : Aside0 (Below w.heap.size w wr) := ⟨by rw [← hq_]; exact pB⟩; clear BK115 BK116 HB hq_; have BK115 := n0_; have BK116 := n1_; have HB := n2_; clear n0_ n1_ n2_; have hrz_gb115_0 : wr.cell? ⟨gb115, 0, none⟩ = some (.int .i64 a0_0) := (blk_cell BK115.out 0).trans rfl; have hrf_gb115_0 := blk_frozen BK115.out 0; have hrz_gb115_1 : wr.cell? ⟨gb115, 1, none⟩ = some (.slice (some ad118) l0_1.length c0_1) := (blk_cell BK115.out 1).trans rfl; have hrf_gb115_1 := blk_frozen BK115.out 1; have hrz_gb116_0 : wr.cell? ⟨gb116, 0, none⟩ = some (.int .i64 x117000_3) := (blk_cell BK116.out 0).trans rfl; have hrf_gb116_0 := blk_frozen BK116.out 0; have hrz_gb116_1 : wr.cell? ⟨gb116, 1, none⟩ = some (.int .i64 x117001_3) := (blk_cell BK116.out 1).trans rfl; have hrf_gb116_1 := blk_frozen BK116.out 1; have hrz_gb116_2 : wr.cell? ⟨gb116, 2, none⟩ = some (.int .i64 x117002_3) := (blk_cell BK116.out 2).trans rfl; have hrf_gb116_2 := blk_frozen BK116.out 2))) | (go_at_call 40; (with_reducible refine (spec_l2Has.calls (rd l0_1 x5_2) x6_3 false _ A21.out).mono ?_); rintro e w' ⟨rfl, ⟨nd, rfl⟩⟩; (try (rw [drewN_self wr]; generalize hq_ : World.drewN wr _ = wr; have n0_ : Aside0 (wr.heap[gb115]? = some (.cells #[.int .i64 a0_0, .slice (some ad118) l0_1.length c0_1] 27 (0, 0))) := ⟨by rw [← hq_]; exact (pK BK115.out)⟩; have n1_ : Aside0 (wr.heap[gb116]? = some (.cells #[.int .i64 x117000_3, .int .i64 x117001_3, .int .i64 x117002_3] 50 (0, 0))) := ⟨by rw [← hq_]; exact (pK BK116.out)⟩; have n2_ : Aside0 (Below w.heap.size w wr) := ⟨by rw [← hq_]; exact pB⟩; clear BK115 BK116 HB hq_; have BK115 := n0_; have BK116 := n1_; have HB := n2_; clear n0_ n1_ n2_; have hrz_gb115_0 : wr.cell? ⟨gb115, 0, none⟩ = some (.int .i64 a0_0) := (blk_cell BK115.out 0).trans rfl; have hrf_gb115_0 := blk_frozen BK115.out 0; have hrz_gb115_1 : wr.cell? ⟨gb115, 1, none⟩ = some (.slice (some ad118) l0_1.length c0_1) := (blk_cell BK115.out 1).trans rfl; have hrf_gb115_1 := blk_frozen BK115.out 1; have hrz_gb116_0 : wr.cell? ⟨gb116, 0, none⟩ = some (.int .i64 x117000_3) := (blk_cell BK116.out 0).trans rfl; have hrf_gb116_0 := blk_frozen BK116.out 0; have hrz_gb116_1 : wr.cell? ⟨gb116, 1, none⟩ = some (.int .i64 x117001_3) := (blk_cell BK116.out 1).trans rfl; have hrf_gb116_1 := blk_frozen BK116.out 1; have hrz_gb116_2 : wr.cell? ⟨gb116, 2, none⟩ = some (.int .i64 x117002_3) := (blk_cell BK116.out 2).trans rfl; have hrf_gb116_2 := blk_frozen BK116.out 2))) | (go_at_call 51; (with_reducible refine (spec_l4Exchange.calls k3 a0_0 _ _ l0_1 (rd l0_1 x4_1) (rd l0_1 x5_2) x6_3 false _ ?side1 ?side2 A25.out).mono ?_); (case side1 => exact pC (Kd.C_below HR0_1.out HB.out)); (case side2 => exact HC0_1.out); rintro e w32 ⟨rfl, hb⟩; replace BK115 := Aside0.mk (bB BK115.out hb); replace BK116 := Aside0.mk (bB BK116.out hb); replace HB := Aside0.mk (below_step pB hb); (try clear hb); (try clear hb2); (try clear hk); (try clear hi); have hcz33_0 : w32.cell? ⟨gb116, 0, none⟩ = some (.int .i64 x117000_3) := (blk_cell BK116.out 0).trans rfl; have hcz33_1 : w32.cell? ⟨gb116, 1, none⟩ = some (.int .i64 x117001_3) := (blk_cell BK116.out 1).trans rfl; have hcz33_2 : w32.cell? ⟨gb116, 2, none⟩ = some (.int .i64 x117002_3) := (blk_cell BK116.out 2).trans rfl; have hfz33_0 := blk_frozen BK116.out 0; have hfz33_1 := blk_frozen BK116.out 1; have hfz33_2 := blk_frozen BK116.out 2))
                  refine bodyPost_ret (results_ct rfl _ _ gb116 50 #[.int .i64 (rd l0_1 x4_1), .int .i64 (rd l0_1 x5_2), .int .i64 x6_3] (0, 0) _ rfl (by (with_reducible repeat (first | refine blk_drewN ?_ _ | refine blk_drew ?_ | refine blk_alloc ?_ _)); refine blk_put (cs := #[.int .i64 (rd l0_1 x4_1), .int .i64 (rd l0_1 x5_2), .int .i64 x117002_3]) ?_ 2 _ rfl; (with_reducible repeat (first | refine blk_drewN ?_ _ | refine blk_drew ?_ | refine blk_alloc ?_ _)); refine blk_put (cs := #[.int .i64 (rd l0_1 x4_1), .int .i64 x117001_3, .int .i64 x117002_3]) ?_ 1 _ rfl; (with_reducible repeat (first | refine blk_drewN ?_ _ | refine blk_drew ?_ | refine blk_alloc ?_ _)); refine blk_put (cs := #[.int .i64 x117000_3, .int .i64 x117001_3, .int .i64 x117002_3]) ?_ 0 _ rfl; exact pK BK116.out) Try.underlying50 rfl kr) rfl ?_
                  exact ⟨p8, pB⟩
               ·replace c20 := Bool.eq_false_iff.mpr c20
                subst c20
                replace H := iN H
                have H' := Aside0.mk H
                clear H
                have hnb34 := NB115_116.out
                have hnc34 := NB116_115.out
                obtain ⟨hcz35_0, hcz35_1, hfz35_0, hfz35_1⟩ := bc2 BK115.out
                have p118 : 0 ≤ (x4_1 : Int) := oD
                have q118 : x4_1 < (l0_1.length : Int) := oD
                obtain ⟨ad118, e118, hx118_0⟩ := Kd.at_int HR0_1.out x4_1 p118 q118
                cases e118
                replace hx118_0 := (HB.out.cell (World.block_lt_of_cell? w _ hx118_0)).trans hx118_0
                replace p118 := eq_true p118
                replace q118 := eq_true q118
                have p119 : 0 ≤ (x5_2 : Int) := oD
                have q119 : x5_2 < (l0_1.length : Int) := oD
                obtain ⟨ad119, e119, hx119_0⟩ := Kd.at_int HR0_1.out x5_2 p119 q119
                obtain rfl : ad118 = ad119 := (by injection e119)
                replace hx119_0 := (HB.out.cell (World.block_lt_of_cell? w _ hx119_0)).trans hx119_0
                replace p119 := eq_true p119
                replace q119 := eq_true q119
                go_wp2_with (first | ((with_reducible refine gate_callee (f := 40) rfl ?_); refine goesL_ (some 48) rfl rfl Try.func40 kr rfl #[.int .i64 (rd l0_1 x4_1), .int .i64 x6_3] rfl p5 ?_; (with_reducible refine (spec_l2Has.calls (rd l0_1 x4_1) x6_3 false _ A19.out).mono ?_); rintro e w' ⟨rfl, ⟨nd, rfl⟩⟩; refine ⟨_, rfl, ?_⟩))
                go_roundg k3
                case measure => have := HK1.out; have := HK2.out; have := HK3.out; omega
                case rel => exact ⟨(wrap64 (x6_3 + 1)), (x117000_3), (x117001_3), (x117002_3), p7, H', ⟨by have := HK1.out; have := HK2.out; have := HK3.out; omega⟩, ⟨pK BK115.out⟩, ⟨pK BK116.out⟩, ⟨pB⟩⟩
              ·rw [if_neg c18] at H
               exact absurd H (by simp)
             ·rw [if_neg c17] at H
              exact absurd H (by simp)
            ·rw [if_neg c16] at H
             exact absurd H (by simp)
           ·rw [if_neg c15] at H
            exact absurd H (by simp)
          ·rw [if_neg c14] at H
           have c14b0 : decide (x6_3 < a0_0) = false := decide_eq_false c14
           clear c14
           have H' := Aside0.mk H
           clear H
           have hnb36 := NB115_116.out
           have hnc36 := NB116_115.out
           obtain ⟨hcz37_0, hcz37_1, hfz37_0, hfz37_1⟩ := bc2 BK115.out
           go_wp2
           go_roundg k3
           case measure => have := HK1.out; have := HK2.out; have := HK3.out; omega
           case rel => exact ⟨(wrap64 (x5_2 + 1)), (x117000_3), (x117001_3), (x117002_3), p7, H', ⟨by have := HK1.out; have := HK2.out; have := HK3.out; omega⟩, ⟨pK BK115.out⟩, ⟨pK BK116.out⟩, ⟨pB⟩⟩
       ·rw [if_neg c11] at H
        have c11b0 : decide (x5_2 < (l0_1.length : Int)) = false := decide_eq_false c11
        clear c11
        have H' := Aside0.mk H
        clear H
        have hnb38 := NB115_116.out
        have hnc38 := NB116_115.out
        obtain ⟨hcz39_0, hcz39_1, hfz39_0, hfz39_1⟩ := bc2 BK115.out
        go_wp2
        go_roundg k2
        case measure => have := HK1.out; have := HK2.out; omega
        case rel => exact ⟨(wrap64 (x4_1 + 1)), (x117000_2), (x117001_2), (x117002_2), p7, H', ⟨by have := HK1.out; have := HK2.out; omega⟩, ⟨pK BK115.out⟩, ⟨pK BK116.out⟩, ⟨pB⟩⟩
    ·rw [if_neg c8] at H
     have c8b0 : decide (x4_1 < (l0_1.length : Int)) = false := decide_eq_false c8
     clear c8
     simp only [Option.some.injEq, Prod.mk.injEq] at H
     obtain ⟨rfl, rfl, rfl, rfl⟩ := H
     have hnb40 := NB115_116.out
     have hnc40 := NB116_115.out
     obtain ⟨hcz41_0, hcz41_1, hfz41_0, hfz41_1⟩ := bc2 BK115.out
     have hcz42_0 : wr.cell? ⟨gb116, 0, none⟩ = some (.int .i64 x117000_1) := (blk_cell BK116.out 0).trans rfl
     have hcz42_1 : wr.cell? ⟨gb116, 1, none⟩ = some (.int .i64 x117001_1) := (blk_cell BK116.out 1).trans rfl
     have hcz42_2 : wr.cell? ⟨gb116, 2, none⟩ = some (.int .i64 x117002_1) := (blk_cell BK116.out 2).trans rfl
     have hfz42_0 := blk_frozen BK116.out 0
     have hfz42_1 := blk_frozen BK116.out 1
     have hfz42_2 := blk_frozen BK116.out 2
     go_wp2
     refine bodyPost_ret (results_ct rfl _ _ gb116 50 #[.int .i64 0, .int .i64 0, .int .i64 0] (0, 0) _ rfl (by (with_reducible repeat (first | refine blk_drewN ?_ _ | refine blk_drew ?_ | refine blk_alloc ?_ _)); refine blk_put (cs := #[.int .i64 0, .int .i64 0, .int .i64 x117002_1]) ?_ 2 _ rfl; (with_reducible repeat (first | refine blk_drewN ?_ _ | refine blk_drew ?_ | refine blk_alloc ?_ _)); refine blk_put (cs := #[.int .i64 0, .int .i64 x117001_1, .int .i64 x117002_1]) ?_ 1 _ rfl; (with_reducible repeat (first | refine blk_drewN ?_ _ | refine blk_drew ?_ | refine blk_alloc ?_ _)); refine blk_put (cs := #[.int .i64 x117000_1, .int .i64 x117001_1, .int .i64 x117002_1]) ?_ 0 _ rfl; exact pK BK116.out) Try.underlying50 rfl kr) rfl ?_
     exact ⟨p8, pB⟩
 ·replace c3 := Bool.eq_false_iff.mpr c3
  subst c3
  replace H := iN H
  simp only [Option.some.injEq, Prod.mk.injEq] at H
  obtain ⟨rfl, rfl, rfl, rfl⟩ := H
  go_enter Try.func37, Try.ntmps37
  go_wp2_with (first | ((with_reducible refine gate_dst (N := 1) rfl ?_); refine box_event ?hg (N := 1) ?hd (cs := #[.int .i64 a0_0, .slice A0_1 l0_1.length c0_1]) (t := 27) ?hr ?_; (case hd => rfl); (case hg => rfl); (case hr => first | (go_simp; done) | (go_simp; rfl)); intro gb115 hg w43 hbox hb; have BK115 := Aside0.mk (hbox); have GW115 := Aside0.mk (bZ (w := w) hg); have GE115 := Aside0.mk (bZ (w := w) hg); replace HB := Aside0.mk (below_step pB hb); clear hb hbox hg) | ((with_reducible refine gate_dst (N := 2) rfl ?_); refine box_event ?hg (N := 2) ?hd (cs := #[.int .i64 0, .int .i64 0, .int .i64 0]) (t := 50) ?hr ?_; (case hd => rfl); (case hg => rfl); (case hr => first | (go_simp; done) | (go_simp; rfl)); intro gb116 hg w44 hbox hb; have BK116 := Aside0.mk (hbox); have GW116 := Aside0.mk (bZ (w := w) hg); have GE116 := Aside0.mk (bZ (w := w) hg); replace HB := Aside0.mk (below_step pB hb); have NB115_116 := Aside0.mk (bL BK115.out hg); have NB116_115 := Aside0.mk (bG BK115.out hg); replace BK115 := Aside0.mk (bB BK115.out hb); clear hb hbox hg; have hnb45 := NB115_116.out; have hnc45 := NB116_115.out; obtain ⟨hcz46_0, hcz46_1, hfz46_0, hfz46_1⟩ := bc2 BK115.out) | ((with_reducible refine gate_callee (f := 38) rfl ?_); refine goesL_ (some 13) rfl rfl Try.func38 kr rfl #[.int .i64 a0_0, .slice A0_1 l0_1.length c0_1] rfl p5 ?_; (with_reducible refine (spec_IsFamily.calls k a0_0 _ _ l0_1 false _ ?side1 ?side2 A2.out).mono ?_); (case side1 => exact pC (Kd.C_below HR0_1.out HB.out)); (case side2 => exact HC0_1.out); rintro e w' ⟨rfl, ⟨nd, rfl⟩⟩; refine ⟨_, rfl, ?_⟩; (try (rw [drewN_self w44]; generalize hq_ : World.drewN w44 _ = w44; have n0_ : Aside0 (w44.heap[gb115]? = some (.cells #[.int .i64 a0_0, .slice A0_1 l0_1.length c0_1] 27 (0, 0))) := ⟨by rw [← hq_]; exact (pK BK115.out)⟩; have n1_ : Aside0 (w44.heap[gb116]? = some (.cells #[.int .i64 0, .int .i64 0, .int .i64 0] 50 (0, 0))) := ⟨by rw [← hq_]; exact (pK BK116.out)⟩; have n2_ : Aside0 (Below w.heap.size w w44) := ⟨by rw [← hq_]; exact pB⟩; clear BK115 BK116 HB hq_; have BK115 := n0_; have BK116 := n1_; have HB := n2_; clear n0_ n1_ n2_; have hrz_gb115_0 : w44.cell? ⟨gb115, 0, none⟩ = some (.int .i64 a0_0) := (blk_cell BK115.out 0).trans rfl; have hrf_gb115_0 := blk_frozen BK115.out 0; have hrz_gb115_1 : w44.cell? ⟨gb115, 1, none⟩ = some (.slice A0_1 l0_1.length c0_1) := (blk_cell BK115.out 1).trans rfl; have hrf_gb115_1 := blk_frozen BK115.out 1; have hrz_gb116_0 : w44.cell? ⟨gb116, 0, none⟩ = some (.int .i64 0) := (blk_cell BK116.out 0).trans rfl; have hrf_gb116_0 := blk_frozen BK116.out 0; have hrz_gb116_1 : w44.cell? ⟨gb116, 1, none⟩ = some (.int .i64 0) := (blk_cell BK116.out 1).trans rfl; have hrf_gb116_1 := blk_frozen BK116.out 1; have hrz_gb116_2 : w44.cell? ⟨gb116, 2, none⟩ = some (.int .i64 0) := (blk_cell BK116.out 2).trans rfl; have hrf_gb116_2 := blk_frozen BK116.out 2)); have hcz47_0 : w44.cell? ⟨gb116, 0, none⟩ = some (.int .i64 0) := (blk_cell BK116.out 0).trans rfl; have hcz47_1 : w44.cell? ⟨gb116, 1, none⟩ = some (.int .i64 0) := (blk_cell BK116.out 1).trans rfl; have hcz47_2 : w44.cell? ⟨gb116, 2, none⟩ = some (.int .i64 0) := (blk_cell BK116.out 2).trans rfl; have hfz47_0 := blk_frozen BK116.out 0; have hfz47_1 := blk_frozen BK116.out 1; have hfz47_2 := blk_frozen BK116.out 2))
  refine bodyPost_ret (results_ct rfl _ _ gb116 50 #[.int .i64 0, .int .i64 0, .int .i64 0] (0, 0) _ rfl (by (with_reducible repeat (first | refine blk_drewN ?_ _ | refine blk_drew ?_ | refine blk_alloc ?_ _)); refine blk_put (cs := #[.int .i64 0, .int .i64 0, .int .i64 0]) ?_ 2 _ rfl; (with_reducible repeat (first | refine blk_drewN ?_ _ | refine blk_drew ?_ | refine blk_alloc ?_ _)); refine blk_put (cs := #[.int .i64 0, .int .i64 0, .int .i64 0]) ?_ 1 _ rfl; (with_reducible repeat (first | refine blk_drewN ?_ _ | refine blk_drew ?_ | refine blk_alloc ?_ _)); refine blk_put (cs := #[.int .i64 0, .int .i64 0, .int .i64 0]) ?_ 0 _ rfl; exact pK BK116.out) Try.underlying50 rfl kr) rfl ?_
  exact ⟨p8, pB⟩
def spec_IsMatroid.f (k : Nat) (a0_0 : Int) (l0_1 : List Int) : Option (Bool) := (spec_FirstFailure.f k a0_0 l0_1).bind fun bt124 => ((spec_IsFamily.f k a0_0 l0_1).bind fun t129 => (if t129 = true then (if (l0_1.length : Int) > 0 then (some (!bt124.2.2.2)) else (some false)) else (some false)))
set_option maxHeartbeats 8000000 in
set_option maxRecDepth 100000 in
theorem spec_IsMatroid.calls (k : Nat) (a0_0 : Int) (A0_1 : Option Addr) (c0_1 : Nat) (l0_1 : List Int) (r : Bool) (w : World) (hr0_1 : Kd.C (Kd.int .i64) w A0_1 l0_1.length l0_1) (hc0_1 : l0_1.length ≤ c0_1) (h : spec_IsMatroid.f k a0_0 l0_1 = some r) :
  Calls Try.prog 25 #[.agg #[.int .i64 a0_0, .slice A0_1 l0_1.length c0_1]] w fun e w' => e = .returned (.bool r) ∧ Below w.heap.size w w' := by
 have hu27 := Try.underlying27
 have hu50 := Try.underlying50
 have HR0_1 := Aside0.mk hr0_1
 have HC0_1 := Aside0.mk hc0_1
 clear hr0_1 hc0_1
 have HB := Aside0.mk (Below.refl w.heap.size w)
 have H : ((spec_FirstFailure.f k a0_0 l0_1).bind fun bt124 => ((spec_IsFamily.f k a0_0 l0_1).bind fun t129 => (if t129 = true then (if (l0_1.length : Int) > 0 then (some (!bt124.2.2.2)) else (some false)) else (some false)))) = some r := h
 clear h
 replace H := Option.bind_eq_some_iff.mp H
 obtain ⟨⟨t124, t125, t126, t127⟩, A20, H⟩ := H
 replace H : ((spec_IsFamily.f k a0_0 l0_1).bind fun t129 => (if t129 = true then (if (l0_1.length : Int) > 0 then (some (!t127)) else (some false)) else (some false))) = some r := H
 have A2 := Aside0.mk A20
 clear A20
 replace H := bS H
 obtain ⟨t129, A3, H⟩ := H
 by_cases c4 : t129 = true
 ·subst c4
  replace H := iP H
  by_cases c5 : (l0_1.length : Int) > 0
  ·rw [if_pos c5] at H
   have c5b0 : decide (0 < (l0_1.length : Int)) = true := decide_eq_true c5
   have c5b1 : decide (0 < l0_1.length) = true := decide_eq_true (by omega)
   clear c5
   obtain rfl := Option.some.inj H
   go_enter Try.func25, Try.ntmps25
   go_wp2_with (first | ((with_reducible refine gate_dst (N := 1) rfl ?_); (try (refine gate_guard (by rfl) ?_; dsimp only)); refine box_event ?hg (N := 1) ?hd (cs := #[.int .i64 a0_0, .slice A0_1 l0_1.length c0_1]) (t := 27) ?hr ?_; (case hd => rfl); (case hg => rfl); (case hr => first | (go_simp; done) | (go_simp; rfl)); intro gb123 hg w6 hbox hb; have BK123 := Aside0.mk (hbox); have GW123 := Aside0.mk (bZ (w := w) hg); have GE123 := Aside0.mk (bZ (w := w) hg); replace HB := Aside0.mk (below_step pB hb); clear hb hbox hg; obtain ⟨hcz7_0, hcz7_1, hfz7_0, hfz7_1⟩ := bc2 BK123.out) | ((with_reducible refine gate_callee (f := 37) rfl ?_); refine goesL_ (some 7) rfl rfl Try.func37 kr rfl #[.agg #[.int .i64 a0_0, .slice A0_1 l0_1.length c0_1]] rfl p5 ?_; (with_reducible refine (spec_FirstFailure.calls k a0_0 _ _ l0_1 t124 t125 t126 t127 _ ?side1 ?side2 A2.out).mono ?_); (case side1 => exact pC (Kd.C_below HR0_1.out HB.out)); (case side2 => exact HC0_1.out); rintro e w8 ⟨rfl, hb⟩; refine ⟨_, rfl, ?_⟩; replace BK123 := Aside0.mk (bB BK123.out hb); replace HB := Aside0.mk (below_step pB hb); (try clear hb); (try clear hb2); (try clear hk); (try clear hi)) | ((with_reducible refine gate_dst (N := 3) rfl ?_); (try (refine gate_guard (by rfl) ?_; dsimp only)); refine box_event ?hg (N := 3) ?hd (cs := #[.int .i64 0, .int .i64 0, .int .i64 0]) (t := 50) ?hr ?_; (case hd => rfl); (case hg => rfl); (case hr => first | (go_simp; done) | (go_simp; rfl)); intro gb128 hg w9 hbox hb; have BK128 := Aside0.mk (hbox); have GW128 := Aside0.mk (bZ (w := w) hg); have GE128 := Aside0.mk (bZ (w := w) hg); replace HB := Aside0.mk (below_step pB hb); have NB123_128 := Aside0.mk (bL BK123.out hg); have NB128_123 := Aside0.mk (bG BK123.out hg); replace BK123 := Aside0.mk (bB BK123.out hb); clear hb hbox hg; have hnb10 := NB128_123.out; have hnc10 := NB123_128.out; have hcz11_0 : w9.cell? ⟨gb128, 0, none⟩ = some (.int .i64 0) := (blk_cell BK128.out 0).trans rfl; have hcz11_1 : w9.cell? ⟨gb128, 1, none⟩ = some (.int .i64 0) := (blk_cell BK128.out 1).trans rfl; have hcz11_2 : w9.cell? ⟨gb128, 2, none⟩ = some (.int .i64 0) := (blk_cell BK128.out 2).trans rfl; have hfz11_0 := blk_frozen BK128.out 0; have hfz11_1 := blk_frozen BK128.out 1; have hfz11_2 := blk_frozen BK128.out 2; obtain ⟨hcz12_0, hcz12_1, hfz12_0, hfz12_1⟩ := bc2 BK123.out) | ((with_reducible refine gate_callee (f := 38) rfl ?_); refine goesL_ (some 14) rfl rfl Try.func38 kr rfl #[.int .i64 a0_0, .slice A0_1 l0_1.length c0_1] rfl p5 ?_; (with_reducible refine (spec_IsFamily.calls k a0_0 _ _ l0_1 true _ ?side1 ?side2 A3.out).mono ?_); (case side1 => exact Kd.C_below HR0_1.out pB); (case side2 => exact HC0_1.out); rintro e w' ⟨rfl, ⟨nd, rfl⟩⟩; refine ⟨_, rfl, ?_⟩))
   go_ret
   exact ⟨p8, pB⟩
  ·rw [if_neg c5] at H
   have c5b0 : decide (0 < (l0_1.length : Int)) = false := decide_eq_false c5
   have c5b1 : decide (0 < l0_1.length) = false := decide_eq_false (by omega)
   clear c5
   obtain rfl := Option.some.inj H
   go_enter Try.func25, Try.ntmps25
   go_wp2_with (first | ((with_reducible refine gate_dst (N := 1) rfl ?_); (try (refine gate_guard (by rfl) ?_; dsimp only)); refine box_event ?hg (N := 1) ?hd (cs := #[.int .i64 a0_0, .slice A0_1 l0_1.length c0_1]) (t := 27) ?hr ?_; (case hd => rfl); (case hg => rfl); (case hr => first | (go_simp; done) | (go_simp; rfl)); intro gb123 hg w13 hbox hb; have BK123 := Aside0.mk (hbox); have GW123 := Aside0.mk (bZ (w := w) hg); have GE123 := Aside0.mk (bZ (w := w) hg); replace HB := Aside0.mk (below_step pB hb); clear hb hbox hg; obtain ⟨hcz14_0, hcz14_1, hfz14_0, hfz14_1⟩ := bc2 BK123.out) | ((with_reducible refine gate_callee (f := 37) rfl ?_); refine goesL_ (some 7) rfl rfl Try.func37 kr rfl #[.agg #[.int .i64 a0_0, .slice A0_1 l0_1.length c0_1]] rfl p5 ?_; (with_reducible refine (spec_FirstFailure.calls k a0_0 _ _ l0_1 t124 t125 t126 t127 _ ?side1 ?side2 A2.out).mono ?_); (case side1 => exact pC (Kd.C_below HR0_1.out HB.out)); (case side2 => exact HC0_1.out); rintro e w15 ⟨rfl, hb⟩; refine ⟨_, rfl, ?_⟩; replace BK123 := Aside0.mk (bB BK123.out hb); replace HB := Aside0.mk (below_step pB hb); (try clear hb); (try clear hb2); (try clear hk); (try clear hi)) | ((with_reducible refine gate_dst (N := 3) rfl ?_); (try (refine gate_guard (by rfl) ?_; dsimp only)); refine box_event ?hg (N := 3) ?hd (cs := #[.int .i64 0, .int .i64 0, .int .i64 0]) (t := 50) ?hr ?_; (case hd => rfl); (case hg => rfl); (case hr => first | (go_simp; done) | (go_simp; rfl)); intro gb128 hg w16 hbox hb; have BK128 := Aside0.mk (hbox); have GW128 := Aside0.mk (bZ (w := w) hg); have GE128 := Aside0.mk (bZ (w := w) hg); replace HB := Aside0.mk (below_step pB hb); have NB123_128 := Aside0.mk (bL BK123.out hg); have NB128_123 := Aside0.mk (bG BK123.out hg); replace BK123 := Aside0.mk (bB BK123.out hb); clear hb hbox hg; have hnb17 := NB128_123.out; have hnc17 := NB123_128.out; have hcz18_0 : w16.cell? ⟨gb128, 0, none⟩ = some (.int .i64 0) := (blk_cell BK128.out 0).trans rfl; have hcz18_1 : w16.cell? ⟨gb128, 1, none⟩ = some (.int .i64 0) := (blk_cell BK128.out 1).trans rfl; have hcz18_2 : w16.cell? ⟨gb128, 2, none⟩ = some (.int .i64 0) := (blk_cell BK128.out 2).trans rfl; have hfz18_0 := blk_frozen BK128.out 0; have hfz18_1 := blk_frozen BK128.out 1; have hfz18_2 := blk_frozen BK128.out 2; obtain ⟨hcz19_0, hcz19_1, hfz19_0, hfz19_1⟩ := bc2 BK123.out) | ((with_reducible refine gate_callee (f := 38) rfl ?_); refine goesL_ (some 14) rfl rfl Try.func38 kr rfl #[.int .i64 a0_0, .slice A0_1 l0_1.length c0_1] rfl p5 ?_; (with_reducible refine (spec_IsFamily.calls k a0_0 _ _ l0_1 true _ ?side1 ?side2 A3.out).mono ?_); (case side1 => exact Kd.C_below HR0_1.out pB); (case side2 => exact HC0_1.out); rintro e w' ⟨rfl, ⟨nd, rfl⟩⟩; refine ⟨_, rfl, ?_⟩))
   go_ret
   exact ⟨p8, pB⟩
 ·replace c4 := Bool.eq_false_iff.mpr c4
  subst c4
  replace H := iN H
  obtain rfl := Option.some.inj H
  go_enter Try.func25, Try.ntmps25
  go_wp2_with (first | ((with_reducible refine gate_dst (N := 1) rfl ?_); (try (refine gate_guard (by rfl) ?_; dsimp only)); refine box_event ?hg (N := 1) ?hd (cs := #[.int .i64 a0_0, .slice A0_1 l0_1.length c0_1]) (t := 27) ?hr ?_; (case hd => rfl); (case hg => rfl); (case hr => first | (go_simp; done) | (go_simp; rfl)); intro gb123 hg w20 hbox hb; have BK123 := Aside0.mk (hbox); have GW123 := Aside0.mk (bZ (w := w) hg); have GE123 := Aside0.mk (bZ (w := w) hg); replace HB := Aside0.mk (below_step pB hb); clear hb hbox hg; obtain ⟨hcz21_0, hcz21_1, hfz21_0, hfz21_1⟩ := bc2 BK123.out) | ((with_reducible refine gate_callee (f := 37) rfl ?_); refine goesL_ (some 7) rfl rfl Try.func37 kr rfl #[.agg #[.int .i64 a0_0, .slice A0_1 l0_1.length c0_1]] rfl p5 ?_; (with_reducible refine (spec_FirstFailure.calls k a0_0 _ _ l0_1 t124 t125 t126 t127 _ ?side1 ?side2 A2.out).mono ?_); (case side1 => exact pC (Kd.C_below HR0_1.out HB.out)); (case side2 => exact HC0_1.out); rintro e w22 ⟨rfl, hb⟩; refine ⟨_, rfl, ?_⟩; replace BK123 := Aside0.mk (bB BK123.out hb); replace HB := Aside0.mk (below_step pB hb); (try clear hb); (try clear hb2); (try clear hk); (try clear hi)) | ((with_reducible refine gate_dst (N := 3) rfl ?_); (try (refine gate_guard (by rfl) ?_; dsimp only)); refine box_event ?hg (N := 3) ?hd (cs := #[.int .i64 0, .int .i64 0, .int .i64 0]) (t := 50) ?hr ?_; (case hd => rfl); (case hg => rfl); (case hr => first | (go_simp; done) | (go_simp; rfl)); intro gb128 hg w23 hbox hb; have BK128 := Aside0.mk (hbox); have GW128 := Aside0.mk (bZ (w := w) hg); have GE128 := Aside0.mk (bZ (w := w) hg); replace HB := Aside0.mk (below_step pB hb); have NB123_128 := Aside0.mk (bL BK123.out hg); have NB128_123 := Aside0.mk (bG BK123.out hg); replace BK123 := Aside0.mk (bB BK123.out hb); clear hb hbox hg; have hnb24 := NB128_123.out; have hnc24 := NB123_128.out; have hcz25_0 : w23.cell? ⟨gb128, 0, none⟩ = some (.int .i64 0) := (blk_cell BK128.out 0).trans rfl; have hcz25_1 : w23.cell? ⟨gb128, 1, none⟩ = some (.int .i64 0) := (blk_cell BK128.out 1).trans rfl; have hcz25_2 : w23.cell? ⟨gb128, 2, none⟩ = some (.int .i64 0) := (blk_cell BK128.out 2).trans rfl; have hfz25_0 := blk_frozen BK128.out 0; have hfz25_1 := blk_frozen BK128.out 1; have hfz25_2 := blk_frozen BK128.out 2; obtain ⟨hcz26_0, hcz26_1, hfz26_0, hfz26_1⟩ := bc2 BK123.out) | ((with_reducible refine gate_callee (f := 38) rfl ?_); refine goesL_ (some 14) rfl rfl Try.func38 kr rfl #[.int .i64 a0_0, .slice A0_1 l0_1.length c0_1] rfl p5 ?_; (with_reducible refine (spec_IsFamily.calls k a0_0 _ _ l0_1 false _ ?side1 ?side2 A3.out).mono ?_); (case side1 => exact Kd.C_below HR0_1.out pB); (case side2 => exact HC0_1.out); rintro e w' ⟨rfl, ⟨nd, rfl⟩⟩; refine ⟨_, rfl, ?_⟩))
  go_ret
  exact ⟨p8, pB⟩
end Go.Proofs.Ytbhckhblonkajaa.Q
