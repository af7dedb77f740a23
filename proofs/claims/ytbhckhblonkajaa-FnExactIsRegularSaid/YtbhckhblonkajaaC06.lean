/- Part of a proof: contracts and lemmas that the row's text uses; joined by a program. -/
import Derived.Test.YtbhckhblonkajaaC04
import Derived.Test.YtbhckhblonkajaaC05
set_option linter.unusedVariables false
set_option linter.unusedSimpArgs false
namespace Go.Proofs.Ytbhckhblonkajaa.Q
open Go.RowKit Go.Proofs.YtbhckhblonkajaaW.PrintWords Go.Proofs.YtbhckhblonkajaaW.PrintLast Go.Proofs.YtbhckhblonkajaaW.PrintMore
attribute [local go_sem] max2_int min2_int max_two min_two max_three min_three max_four min_four
mutual
def impl_FirstFailure.l0 : Nat → List Int → Int → Int → Int → List Int → Option (Int × Int × Int × Bool)
 | 0, _, _, _, _, _ => none
 | k + 1, x19, x20, x21, x271000, x271001 => if x21 < x20 then (if 0 ≤ x21 then (if x21 < (x19.length : Int) then (impl_FirstFailure.l1 k x19 x20 x21 x271001 (x271001.length : Int) 0 x271000 x271001 (rd x19 x21)) else (none)) else (none)) else (some (0, 0, 0, false))
def impl_FirstFailure.l1 : Nat → List Int → Int → Int → List Int → Int → Int → Int → List Int → Int → Option (Int × Int × Int × Bool)
 | 0, _, _, _, _, _, _, _, _, _ => none
 | k + 1, x19, x20, x21, x26, x27, x28, x271000, x271001, x275000 => if x28 < x27 then (if 0 ≤ x28 then (if x28 < (x26.length : Int) then ((impl_ElementsOf.f k (Go.bits .andNot .i64 x275000 (rd x26 x28))).bind fun t276 => (impl_FirstFailure.l2 k (rd x26 x28) x19 x20 x21 x26 x27 x28 t276 (t276.length : Int) 0 x271000 x271001 x275000)) else (none)) else (none)) else (impl_FirstFailure.l0 k x19 x20 (wrap64 (x21 + 1)) x271000 x271001)
def impl_FirstFailure.l2 : Nat → Int → List Int → Int → Int → List Int → Int → Int → List Int → Int → Int → Int → List Int → Int → Option (Int × Int × Int × Bool)
 | 0, _, _, _, _, _, _, _, _, _, _, _, _, _ => none
 | k + 1, x7, x19, x20, x21, x26, x27, x28, x35, x36, x37, x271000, x271001, x275000 => if x37 < x36 then (if 0 ≤ x37 then (if x37 < (x35.length : Int) then ((impl_ElementsOf.f k (Go.bits .andNot .i64 x7 x275000)).bind fun t281 => ((impl_FirstFailure_any.f t281 x271000 x271001 x275000 (rd x35 x37)).bind fun t284 => (if t284 = true then (impl_FirstFailure.l2 k x7 x19 x20 x21 x26 x27 x28 x35 x36 (wrap64 (x37 + 1)) x271000 x271001 x275000) else (some (x275000, x7, rd x35 x37, true))))) else (none)) else (none)) else (impl_FirstFailure.l1 k x19 x20 x21 x26 x27 (wrap64 (x28 + 1)) x271000 x271001 x275000)
end
def impl_FirstFailure.f (k : Nat) (a0_0 : Int) (l0_1 : List Int) : Option (Int × Int × Int × Bool) := (impl_IsFamily.f k a0_0 l0_1).bind fun t272 => (if t272 = true then (impl_FirstFailure.l0 k l0_1 (l0_1.length : Int) 0 a0_0 l0_1) else (some (0, 0, 0, false)))
set_option maxHeartbeats 8000000 in
set_option maxRecDepth 100000 in
theorem impl_FirstFailure.calls (k : Nat) (a0_0 : Int) (A0_1 : Option Addr) (c0_1 : Nat) (l0_1 : List Int) (r1 : Int) (r2 : Int) (r3 : Int) (r4 : Bool) (w : World) (hr0_1 : Kd.C (Kd.int .i64) w A0_1 l0_1.length l0_1) (hc0_1 : l0_1.length ≤ c0_1) (h : impl_FirstFailure.f k a0_0 l0_1 = some (r1, r2, r3, r4)) :
  Calls Try.prog 45 #[.agg #[.int .i64 a0_0, .slice A0_1 l0_1.length c0_1]] w fun e w' => e = .returned (.tuple #[.agg #[.int .i64 r1, .int .i64 r2, .int .i64 r3], .bool r4]) ∧ Below w.heap.size w w' := by
 have hu27 := Try.underlying27
 have hu50 := Try.underlying50
 have HR0_1 := Aside0.mk hr0_1
 have HC0_1 := Aside0.mk hc0_1
 clear hr0_1 hc0_1
 have HB := Aside0.mk (Below.refl w.heap.size w)
 have H : ((impl_IsFamily.f k a0_0 l0_1).bind fun t272 => (if t272 = true then (impl_FirstFailure.l0 k l0_1 (l0_1.length : Int) 0 a0_0 l0_1) else (some (0, 0, 0, false)))) = some (r1, r2, r3, r4) := h
 clear h
 replace H := bS H
 obtain ⟨t272, A2, H⟩ := H
 by_cases c3 : t272 = true
 ·subst c3
  replace H := iP H
  have H' := Aside0.mk H
  clear H
  go_enter Try.func45, Try.ntmps45
  go_wp2_with (first | ((with_reducible refine gate_dst (N := 1) rfl ?_); refine box_event ?hg (N := 1) ?hd (cs := #[.int .i64 a0_0, .slice A0_1 l0_1.length c0_1]) (t := 27) ?hr ?_; (case hd => rfl); (case hg => rfl); (case hr => first | (go_simp; done) | (go_simp; rfl)); intro gb270 hg w4 hbox hb; have BK270 := Aside0.mk (hbox); have GW270 := Aside0.mk (bZ (w := w) hg); have GE270 := Aside0.mk (bZ (w := w) hg); replace HB := Aside0.mk (below_step pB hb); clear hb hbox hg) | ((with_reducible refine gate_dst (N := 2) rfl ?_); refine box_event ?hg (N := 2) ?hd (cs := #[.int .i64 0, .int .i64 0, .int .i64 0]) (t := 50) ?hr ?_; (case hd => rfl); (case hg => rfl); (case hr => first | (go_simp; done) | (go_simp; rfl)); intro gb271 hg w5 hbox hb; have BK271 := Aside0.mk (hbox); have GW271 := Aside0.mk (bZ (w := w) hg); have GE271 := Aside0.mk (bZ (w := w) hg); replace HB := Aside0.mk (below_step pB hb); have NB270_271 := Aside0.mk (bL BK270.out hg); have NB271_270 := Aside0.mk (bG BK270.out hg); replace BK270 := Aside0.mk (bB BK270.out hb); clear hb hbox hg; have hnb6 := NB270_271.out; have hnc6 := NB271_270.out; obtain ⟨hcz7_0, hcz7_1, hfz7_0, hfz7_1⟩ := bc2 BK270.out) | ((with_reducible refine gate_callee (f := 46) rfl ?_); refine goesL_ (some 15) rfl rfl Try.func46 kr rfl #[.int .i64 a0_0, .slice A0_1 l0_1.length c0_1] rfl p5 ?_; (with_reducible refine (impl_IsFamily.calls k a0_0 _ _ l0_1 true _ ?side1 ?side2 A2.out).mono ?_); (case side1 => exact pC (Kd.C_below HR0_1.out HB.out)); (case side2 => exact HC0_1.out); rintro e w' ⟨rfl, ⟨nd, rfl⟩⟩; refine ⟨_, rfl, ?_⟩))
  go_loopg [21] k (fun kq v21 w' => ∃ (x21_1 : Int) (x272000_1 : Int) (x272001_1 : Int) (x272002_1 : Int), v21 = .int .i64 x21_1 ∧ Aside0 (impl_FirstFailure.l0 kq l0_1 (l0_1.length : Int) x21_1 a0_0 l0_1 = some (r1, r2, r3, r4)) ∧ Aside0 (kq ≤ k) ∧ Aside0 (w'.heap[gb270]? = some (.cells #[.int .i64 a0_0, (.slice A0_1 l0_1.length c0_1)] 27 (0, 0))) ∧ Aside0 (w'.heap[gb271]? = some (.cells #[.int .i64 x272000_1, .int .i64 x272001_1, .int .i64 x272002_1] 50 (0, 0))) ∧ Aside0 (Below w.heap.size w w'))
  case atStart => exact ⟨(0), (0), (0), (0), p7, H', ⟨Nat.le_refl _⟩, ⟨pK BK270.out⟩, ⟨pK BK271.out⟩, ⟨pB⟩⟩
  case round =>
   clear H'
   try clear c3
   try clear hcz7_0
   try clear hcz7_1
   try clear hfz7_0
   try clear hfz7_1
   obtain ⟨x21_1, x272000_1, x272001_1, x272002_1, rfl, HA, HK1, BK270, BK271, HB⟩ := hrel
   cases gk with
   | zero => exact absurd HA.out (by simp [impl_FirstFailure.l0])
   | succ k1 =>
    have H := HA.out
    clear HA
    simp only [impl_FirstFailure.l0] at H
    by_cases c8 : x21_1 < (l0_1.length : Int)
    ·rw [if_pos c8] at H
     have c8b0 : decide (x21_1 < (l0_1.length : Int)) = true := decide_eq_true c8
     clear c8
     by_cases c9 : 0 ≤ x21_1
     ·rw [if_pos c9] at H
      have c9b0 : decide (0 ≤ x21_1) = true := decide_eq_true c9
      clear c9
      by_cases c10 : x21_1 < (l0_1.length : Int)
      ·rw [if_pos c10] at H
       have c10b0 : decide (x21_1 < (l0_1.length : Int)) = true := decide_eq_true c10
       clear c10
       have H' := Aside0.mk H
       clear H
       have p273 : 0 ≤ (x21_1 : Int) := oD
       have q273 : x21_1 < (l0_1.length : Int) := oD
       obtain ⟨ad273, e273, hx273_0⟩ := Kd.at_int HR0_1.out x21_1 p273 q273
       cases e273
       replace hx273_0 := (HB.out.cell (World.block_lt_of_cell? w _ hx273_0)).trans hx273_0
       replace p273 := eq_true p273
       replace q273 := eq_true q273
       go_wp2_with (first | ((with_reducible refine gate_dst (N := 5) rfl ?_); refine box_event ?hg (N := 5) ?hd (cs := #[.int .i64 0]) (t := 3) ?hr ?_; (case hd => rfl); (case hg => rfl); (case hr => first | (go_simp; done) | (go_simp; rfl)); intro gb274 hg w11 hbox hb; have BK274 := Aside0.mk (hbox); have GW274 := Aside0.mk (bZ (w := w) hg); have GE274 := Aside0.mk (bZ (w := w) hg); replace HB := Aside0.mk (below_step pB hb); have NB270_274 := Aside0.mk (bL BK270.out hg); have NB274_270 := Aside0.mk (bG BK270.out hg); replace BK270 := Aside0.mk (bB BK270.out hb); have NB271_274 := Aside0.mk (bL BK271.out hg); have NB274_271 := Aside0.mk (bG BK271.out hg); replace BK271 := Aside0.mk (bB BK271.out hb); clear hb hbox hg; have hnb12 := NB274_270.out; have hnc12 := NB270_274.out; have hnb13 := NB274_271.out; have hnc13 := NB271_274.out; obtain ⟨hcz14_0, hfz14_0⟩ := bc1 BK274.out; have hnb15 := NB270_271.out; have hnc15 := NB271_270.out; obtain ⟨hcz16_0, hcz16_1, hfz16_0, hfz16_1⟩ := bc2 BK270.out))
       go_loopg [28] k1 (fun kq v28 w' => ∃ (x28_2 : Int) (x272000_2 : Int) (x272001_2 : Int) (x272002_2 : Int), v28 = .int .i64 x28_2 ∧ Aside0 (impl_FirstFailure.l1 kq l0_1 (l0_1.length : Int) x21_1 l0_1 (l0_1.length : Int) x28_2 a0_0 l0_1 (rd l0_1 x21_1) = some (r1, r2, r3, r4)) ∧ Aside0 (kq ≤ k1) ∧ Aside0 (w'.heap[gb270]? = some (.cells #[.int .i64 a0_0, (.slice (some ad273) l0_1.length c0_1)] 27 (0, 0))) ∧ Aside0 (w'.heap[gb271]? = some (.cells #[.int .i64 x272000_2, .int .i64 x272001_2, .int .i64 x272002_2] 50 (0, 0))) ∧ Aside0 (w'.heap[gb274]? = some (.cells #[.int .i64 (rd l0_1 x21_1)] 3 (0, 0))) ∧ Aside0 (Below w.heap.size w w'))
       case atStart => exact ⟨(0), (x272000_1), (x272001_1), (x272002_1), p7, H', ⟨Nat.le_refl _⟩, ⟨by (with_reducible repeat (first | refine blk_drewN ?_ _ | refine blk_drew ?_ | refine blk_alloc ?_ _)); refine blk_far ?_ NB270_274.out _; (with_reducible repeat (first | refine blk_drewN ?_ _ | refine blk_drew ?_ | refine blk_alloc ?_ _)); exact BK270.out⟩, ⟨by (with_reducible repeat (first | refine blk_drewN ?_ _ | refine blk_drew ?_ | refine blk_alloc ?_ _)); refine blk_far ?_ NB271_274.out _; (with_reducible repeat (first | refine blk_drewN ?_ _ | refine blk_drew ?_ | refine blk_alloc ?_ _)); exact BK271.out⟩, ⟨by (with_reducible repeat (first | refine blk_drewN ?_ _ | refine blk_drew ?_ | refine blk_alloc ?_ _)); refine blk_put (cs := #[.int .i64 0]) ?_ 0 _ rfl; (with_reducible repeat (first | refine blk_drewN ?_ _ | refine blk_drew ?_ | refine blk_alloc ?_ _)); exact BK274.out⟩, ⟨pB⟩⟩
       case round =>
        clear H'
        try clear c3
        try clear c8
        try clear c8b0
        try clear c9
        try clear c9b0
        try clear c10
        try clear c10b0
        try clear hcz14_0
        try clear hcz16_0
        try clear hcz16_1
        try clear hcz7_0
        try clear hcz7_1
        try clear hfz14_0
        try clear hfz16_0
        try clear hfz16_1
        try clear hfz7_0
        try clear hfz7_1
        try clear hx273_0
        try clear p273
        try clear q273
        obtain ⟨x28_2, x272000_2, x272001_2, x272002_2, rfl, HA, HK2, BK270, BK271, BK274, HB⟩ := hrel
        cases gk with
        | zero => exact absurd HA.out (by simp [impl_FirstFailure.l1])
        | succ k2 =>
         have H := HA.out
         clear HA
         simp only [impl_FirstFailure.l1] at H
         by_cases c17 : x28_2 < (l0_1.length : Int)
         ·rw [if_pos c17] at H
          have c17b0 : decide (x28_2 < (l0_1.length : Int)) = true := decide_eq_true c17
          clear c17
          by_cases c18 : 0 ≤ x28_2
          ·rw [if_pos c18] at H
           have c18b0 : decide (0 ≤ x28_2) = true := decide_eq_true c18
           clear c18
           by_cases c19 : x28_2 < (l0_1.length : Int)
           ·rw [if_pos c19] at H
            have c19b0 : decide (x28_2 < (l0_1.length : Int)) = true := decide_eq_true c19
            clear c19
            replace H := bS H
            obtain ⟨t276, A20, H⟩ := H
            have H' := Aside0.mk H
            clear H
            have p275 : 0 ≤ (x28_2 : Int) := oD
            have q275 : x28_2 < (l0_1.length : Int) := oD
            obtain ⟨ad275, e275, hx275_0⟩ := Kd.at_int HR0_1.out x28_2 p275 q275
            obtain rfl : ad273 = ad275 := (by injection e275)
            replace hx275_0 := (HB.out.cell (World.block_lt_of_cell? w _ hx275_0)).trans hx275_0
            replace p275 := eq_true p275
            replace q275 := eq_true q275
            have hnb21 := NB274_270.out
            have hnc21 := NB270_274.out
            have hnb22 := NB274_271.out
            have hnc22 := NB271_274.out
            obtain ⟨hcz23_0, hfz23_0⟩ := bc1 BK274.out
            go_wp2_with (first | ((with_reducible refine gate_callee (f := 31) rfl ?_); refine goesL_ (some 35) rfl rfl Try.func31 kr rfl #[.int .i64 (Go.bits .andNot .i64 (rd l0_1 x21_1) (rd l0_1 x28_2))] rfl p5 ?_; (with_reducible refine (impl_ElementsOf.calls k2 (Go.bits .andNot .i64 (rd l0_1 x21_1) (rd l0_1 x28_2)) t276 _ A20.out).mono ?_); rintro e w24 ⟨v277, rfl, ho0, hb⟩; refine ⟨_, rfl, ?_⟩; have HO278 := Aside0.mk (Kd.R_lower (Kd.R_newB ho0 (g := gb274) (o := .cells #[.int .i64 (rd l0_1 x21_1)] 3 (0, 0)) (pK BK274.out)) (below_size pB)); replace BK270 := Aside0.mk (bB BK270.out hb); replace BK271 := Aside0.mk (bB BK271.out hb); replace BK274 := Aside0.mk (bB BK274.out hb); replace HB := Aside0.mk (below_step pB hb); (try clear hb); (try clear hb2); (try clear hk); (try clear hi); (try clear ho0); obtain ⟨Ao25, co25, eo25⟩ := Kd.R_slice HO278.out; subst eo25))
            go_loopg [37] k2 (fun kq v37 w' => ∃ (x37_3 : Int) (x272000_3 : Int) (x272001_3 : Int) (x272002_3 : Int), v37 = .int .i64 x37_3 ∧ Aside0 (impl_FirstFailure.l2 kq (rd l0_1 x28_2) l0_1 (l0_1.length : Int) x21_1 l0_1 (l0_1.length : Int) x28_2 t276 (t276.length : Int) x37_3 a0_0 l0_1 (rd l0_1 x21_1) = some (r1, r2, r3, r4)) ∧ Aside0 (kq ≤ k2) ∧ Aside0 (Kd.R (Kd.int .i64) 3 w' w.heap.size (fun k_ => k_ ≠ gb274) (.slice Ao25 t276.length co25) t276) ∧ Aside0 (w'.heap[gb270]? = some (.cells #[.int .i64 a0_0, (.slice (some ad273) l0_1.length c0_1)] 27 (0, 0))) ∧ Aside0 (w'.heap[gb271]? = some (.cells #[.int .i64 x272000_3, .int .i64 x272001_3, .int .i64 x272002_3] 50 (0, 0))) ∧ Aside0 (w'.heap[gb274]? = some (.cells #[.int .i64 (rd l0_1 x21_1)] 3 (0, 0))) ∧ Aside0 (Below w.heap.size w w'))
            case atStart => exact ⟨(0), (x272000_2), (x272001_2), (x272002_2), p7, H', ⟨Nat.le_refl _⟩, ⟨by (with_reducible repeat (first | apply Kd.R_alloc | apply Kd.R_drewN | apply Kd.R_drew)); exact Kd.R_mono HO278.out (fun _ hk => hk.2)⟩, ⟨pK BK270.out⟩, ⟨pK BK271.out⟩, ⟨pK BK274.out⟩, ⟨pB⟩⟩
            case round =>
             clear H'
             try clear c3
             try clear c8
             try clear c8b0
             try clear c9
             try clear c9b0
             try clear c10
             try clear c10b0
             try clear c17
             try clear c17b0
             try clear c18
             try clear c18b0
             try clear c19
             try clear c19b0
             try clear hcz14_0
             try clear hcz16_0
             try clear hcz16_1
             try clear hcz23_0
             try clear hcz7_0
             try clear hcz7_1
             try clear hfz14_0
             try clear hfz16_0
             try clear hfz16_1
             try clear hfz23_0
             try clear hfz7_0
             try clear hfz7_1
             try clear hx273_0
             try clear hx275_0
             try clear p273
             try clear p275
             try clear q273
             try clear q275
             obtain ⟨x37_3, x272000_3, x272001_3, x272002_3, rfl, HA, HK3, HO_35, BK270, BK271, BK274, HB⟩ := hrel
             cases gk with
             | zero => exact absurd HA.out (by simp [impl_FirstFailure.l2])
             | succ k3 =>
              have H := HA.out
              clear HA
              simp only [impl_FirstFailure.l2] at H
              by_cases c26 : x37_3 < (t276.length : Int)
              ·rw [if_pos c26] at H
               have c26b0 : decide (x37_3 < (t276.length : Int)) = true := decide_eq_true c26
               clear c26
               by_cases c27 : 0 ≤ x37_3
               ·rw [if_pos c27] at H
                have c27b0 : decide (0 ≤ x37_3) = true := decide_eq_true c27
                clear c27
                by_cases c28 : x37_3 < (t276.length : Int)
                ·rw [if_pos c28] at H
                 have c28b0 : decide (x37_3 < (t276.length : Int)) = true := decide_eq_true c28
                 clear c28
                 replace H := bS H
                 obtain ⟨t281, A29, H⟩ := H
                 replace H := bS H
                 obtain ⟨t284, A30, H⟩ := H
                 by_cases c31 : t284 = true
                 ·subst c31
                  replace H := iP H
                  have H' := Aside0.mk H
                  clear H
                  have p279 : 0 ≤ (x37_3 : Int) := oD
                  have q279 : x37_3 < (t276.length : Int) := oD
                  obtain ⟨ad279, e279, hx279_0⟩ := Kd.at_int (Kd.R_reads' HO_35.out).2.2 x37_3 p279 q279
                  cases e279
                  replace p279 := eq_true p279
                  replace q279 := eq_true q279
                  go_wp2_with (first | ((with_reducible refine gate_dst (N := 9) rfl ?_); refine box_event ?hg (N := 9) ?hd (cs := #[.int .i64 0]) (t := 3) ?hr ?_; (case hd => rfl); (case hg => rfl); (case hr => first | (go_simp; done) | (go_simp; rfl)); intro gb280 hg w32 hbox hb; replace HO_35 := Aside0.mk (Kd.R_below (Kd.R_elderB (pR HO_35.out) gb280 (Nat.le_of_eq hg.symm)) hb); have BK280 := Aside0.mk (hbox); have GW280 := Aside0.mk (bZ (w := w) hg); have GE280 := Aside0.mk (bZ (w := w) hg); replace HB := Aside0.mk (below_step pB hb); have NB270_280 := Aside0.mk (bL BK270.out hg); have NB280_270 := Aside0.mk (bG BK270.out hg); replace BK270 := Aside0.mk (bB BK270.out hb); have NB271_280 := Aside0.mk (bL BK271.out hg); have NB280_271 := Aside0.mk (bG BK271.out hg); replace BK271 := Aside0.mk (bB BK271.out hb); have NB274_280 := Aside0.mk (bL BK274.out hg); have NB280_274 := Aside0.mk (bG BK274.out hg); replace BK274 := Aside0.mk (bB BK274.out hb); clear hb hbox hg; have hnb33 := NB280_270.out; have hnc33 := NB270_280.out; have hnb34 := NB280_271.out; have hnc34 := NB271_280.out; have hnb35 := NB280_274.out; have hnc35 := NB274_280.out; obtain ⟨hcz36_0, hfz36_0⟩ := bc1 BK280.out; have hnb37 := NB274_270.out; have hnc37 := NB270_274.out; have hnb38 := NB274_271.out; have hnc38 := NB271_274.out; obtain ⟨hcz39_0, hfz39_0⟩ := bc1 BK274.out) | ((with_reducible refine gate_callee (f := 31) rfl ?_); refine goesL_ (some 44) rfl rfl Try.func31 kr rfl #[.int .i64 (Go.bits .andNot .i64 (rd l0_1 x28_2) (rd l0_1 x21_1))] rfl p5 ?_; (with_reducible refine (impl_ElementsOf.calls k3 (Go.bits .andNot .i64 (rd l0_1 x28_2) (rd l0_1 x21_1)) t281 _ A29.out).mono ?_); rintro e w40 ⟨v282, rfl, ho0, hb⟩; refine ⟨_, rfl, ?_⟩; have HO283 := Aside0.mk (Kd.R_lower (Kd.R_newB (Kd.R_newB (Kd.R_new' ho0 (Kd.R_lt (by (with_reducible repeat (first | apply Kd.R_alloc | apply Kd.R_drewN | apply Kd.R_drew)); exact (Kd.R_mono (Kd.R_far (p := ⟨gb280, 0, none⟩) (Kd.R_mono HO_35.out (fun k_ hk => (⟨hk, hk.2⟩ : _ ∧ k_ ≠ gb280))) (fun _ hk => hk.2) (.int .i64 (rd t276 x37_3))) (fun _ h_ => h_.1))))) (g := gb274) (o := .cells #[.int .i64 (rd l0_1 x21_1)] 3 (0, 0)) (by (with_reducible repeat (first | refine blk_drewN ?_ _ | refine blk_drew ?_ | refine blk_alloc ?_ _)); refine blk_far ?_ NB274_280.out _; exact pK BK274.out)) (g := gb280) (o := .cells #[.int .i64 (rd t276 x37_3)] 3 (0, 0)) (by (with_reducible repeat (first | refine blk_drewN ?_ _ | refine blk_drew ?_ | refine blk_alloc ?_ _)); refine blk_put (cs := #[.int .i64 0]) ?_ 0 _ rfl; exact pK BK280.out)) (below_size pB)); replace HO_35 := Aside0.mk (Kd.R_elder' (by (with_reducible repeat (first | apply Kd.R_alloc | apply Kd.R_drewN | apply Kd.R_drew)); exact (Kd.R_mono (Kd.R_far (p := ⟨gb280, 0, none⟩) (Kd.R_mono HO_35.out (fun k_ hk => (⟨hk, hk.2⟩ : _ ∧ k_ ≠ gb280))) (fun _ hk => hk.2) (.int .i64 (rd t276 x37_3))) (fun _ h_ => h_.1))) (Kd.R_base ho0) hb); replace BK270 := Aside0.mk (blk_below (g := gb270) (o := .cells #[.int .i64 a0_0, .slice (some ad273) l0_1.length c0_1] 27 (0, 0)) (by (with_reducible repeat (first | refine blk_drewN ?_ _ | refine blk_drew ?_ | refine blk_alloc ?_ _)); refine blk_far ?_ NB270_280.out _; exact pK BK270.out) hb); replace BK271 := Aside0.mk (blk_below (g := gb271) (o := .cells #[.int .i64 x272000_3, .int .i64 x272001_3, .int .i64 x272002_3] 50 (0, 0)) (by (with_reducible repeat (first | refine blk_drewN ?_ _ | refine blk_drew ?_ | refine blk_alloc ?_ _)); refine blk_far ?_ NB271_280.out _; exact pK BK271.out) hb); replace BK274 := Aside0.mk (blk_below (g := gb274) (o := .cells #[.int .i64 (rd l0_1 x21_1)] 3 (0, 0)) (by (with_reducible repeat (first | refine blk_drewN ?_ _ | refine blk_drew ?_ | refine blk_alloc ?_ _)); refine blk_far ?_ NB274_280.out _; exact pK BK274.out) hb); replace BK280 := Aside0.mk (blk_below (g := gb280) (o := .cells #[.int .i64 (rd t276 x37_3)] 3 (0, 0)) (by (with_reducible repeat (first | refine blk_drewN ?_ _ | refine blk_drew ?_ | refine blk_alloc ?_ _)); refine blk_put (cs := #[.int .i64 0]) ?_ 0 _ rfl; exact pK BK280.out) hb); replace HB := Aside0.mk (below_step pB hb); (try clear hb); (try clear hb2); (try clear hk); (try clear hi); (try clear ho0); obtain ⟨Ao41, co41, eo41⟩ := Kd.R_slice HO283.out; subst eo41) | ((with_reducible refine gate_callee (f := 60) rfl ?_); refine goesL_ (some 46) rfl rfl Try.func60 kr rfl #[.slice Ao41 t281.length co41, .func (.func 61) #[] #[.pointer (some ⟨gb270, 0, none⟩), .pointer (some ⟨gb274, 0, none⟩), .pointer (some ⟨gb280, 0, none⟩)]] rfl p5 ?_; (with_reducible refine (impl_FirstFailure_any.calls _ _ t281 a0_0 _ _ l0_1 (rd l0_1 x21_1) (rd t276 x37_3) true _ ?side1 ?side2 ?side3 ?side4 A30.out gb270 (by repeat (first | exact BK270.out | (with_reducible refine blk_drewN ?_ _) | (with_reducible refine blk_drew ?_) | (with_reducible refine blk_alloc ?_ _) | exact blk_put BK270.out 0 _ rfl | (with_reducible refine blk_far ?_ NB270_274.out _) | (with_reducible refine blk_far ?_ NB270_280.out _))) gb274 (by repeat (first | exact BK274.out | (with_reducible refine blk_drewN ?_ _) | (with_reducible refine blk_drew ?_) | (with_reducible refine blk_alloc ?_ _) | exact blk_put BK274.out 0 _ rfl | (with_reducible refine blk_far ?_ NB274_270.out _) | (with_reducible refine blk_far ?_ NB274_280.out _))) gb280 (by repeat (first | exact BK280.out | (with_reducible refine blk_drewN ?_ _) | (with_reducible refine blk_drew ?_) | (with_reducible refine blk_alloc ?_ _) | exact blk_put BK280.out 0 _ rfl | (with_reducible refine blk_far ?_ NB280_270.out _) | (with_reducible refine blk_far ?_ NB280_274.out _)))).mono ?_); (case side1 => repeat (first | exact (Kd.R_reads' HO283.out).2.2 | (with_reducible refine Kd.C_alloc ?_ _) | (with_reducible refine Kd.C_drewN ?_ _) | (with_reducible refine Kd.C_drew ?_))); (case side2 => exact (Kd.R_reads' HO283.out).2.1); (case side3 => exact pC (Kd.C_below HR0_1.out HB.out)); (case side4 => exact HC0_1.out); rintro e w42 ⟨rfl, hb⟩; refine ⟨_, rfl, ?_⟩; replace HO_35 := Aside0.mk (Kd.R_below (pR HO_35.out) hb); replace HO283 := Aside0.mk (Kd.R_below (pR HO283.out) hb); replace BK270 := Aside0.mk (bB BK270.out hb); replace BK271 := Aside0.mk (bB BK271.out hb); replace BK274 := Aside0.mk (bB BK274.out hb); replace BK280 := Aside0.mk (bB BK280.out hb); replace HB := Aside0.mk (below_step pB hb); (try clear hb); (try clear hb2); (try clear hk); (try clear hi)))
                  go_roundg k3
                  case measure => have := HK1.out; have := HK2.out; have := HK3.out; omega
                  case rel => exact ⟨(wrap64 (x37_3 + 1)), (x272000_3), (x272001_3), (x272002_3), p7, H', ⟨by have := HK1.out; have := HK2.out; have := HK3.out; omega⟩, ⟨by (with_reducible repeat (first | apply Kd.R_alloc | apply Kd.R_drewN | apply Kd.R_drew)); exact Kd.R_mono HO_35.out (fun _ hk => hk.1.1)⟩, ⟨pK BK270.out⟩, ⟨pK BK271.out⟩, ⟨pK BK274.out⟩, ⟨pB⟩⟩
                 ·replace c31 := Bool.eq_false_iff.mpr c31
                  subst c31
                  replace H := iN H
                  simp only [Option.some.injEq, Prod.mk.injEq] at H
                  obtain ⟨rfl, rfl, rfl, rfl⟩ := H
                  have p279 : 0 ≤ (x37_3 : Int) := oD
                  have q279 : x37_3 < (t276.length : Int) := oD
                  obtain ⟨ad279, e279, hx279_0⟩ := Kd.at_int (Kd.R_reads' HO_35.out).2.2 x37_3 p279 q279
                  cases e279
                  replace p279 := eq_true p279
                  replace q279 := eq_true q279
                  go_wp2_with (first | ((with_reducible refine gate_dst (N := 9) rfl ?_); refine box_event ?hg (N := 9) ?hd (cs := #[.int .i64 0]) (t := 3) ?hr ?_; (case hd => rfl); (case hg => rfl); (case hr => first | (go_simp; done) | (go_simp; rfl)); intro gb280 hg w43 hbox hb; replace HO_35 := Aside0.mk (Kd.R_below (Kd.R_elderB (pR HO_35.out) gb280 (Nat.le_of_eq hg.symm)) hb); have BK280 := Aside0.mk (hbox); have GW280 := Aside0.mk (bZ (w := w) hg); have GE280 := Aside0.mk (bZ (w := w) hg); replace HB := Aside0.mk (below_step pB hb); have NB270_280 := Aside0.mk (bL BK270.out hg); have NB280_270 := Aside0.mk (bG BK270.out hg); replace BK270 := Aside0.mk (bB BK270.out hb); have NB271_280 := Aside0.mk (bL BK271.out hg); have NB280_271 := Aside0.mk (bG BK271.out hg); replace BK271 := Aside0.mk (bB BK271.out hb); have NB274_280 := Aside0.mk (bL BK274.out hg); have NB280_274 := Aside0.mk (bG BK274.out hg); replace BK274 := Aside0.mk (bB BK274.out hb); clear hb hbox hg; have hnb44 := NB280_270.out; have hnc44 := NB270_280.out; have hnb45 := NB280_271.out; have hnc45 := NB271_280.out; have hnb46 := NB280_274.out; have hnc46 := NB274_280.out; obtain ⟨hcz47_0, hfz47_0⟩ := bc1 BK280.out; have hnb48 := NB274_270.out; have hnc48 := NB270_274.out; have hnb49 := NB274_271.out; have hnc49 := NB271_274.out; obtain ⟨hcz50_0, hfz50_0⟩ := bc1 BK274.out) | ((with_reducible refine gate_callee (f := 31) rfl ?_); refine goesL_ (some 44) rfl rfl Try.func31 kr rfl #[.int .i64 (Go.bits .andNot .i64 (rd l0_1 x28_2) (rd l0_1 x21_1))] rfl p5 ?_; (with_reducible refine (impl_ElementsOf.calls k3 (Go.bits .andNot .i64 (rd l0_1 x28_2) (rd l0_1 x21_1)) t281 _ A29.out).mono ?_); rintro e w51 ⟨v282, rfl, ho0, hb⟩; refine ⟨_, rfl, ?_⟩; have HO283 := Aside0.mk (Kd.R_lower (Kd.R_newB (Kd.R_newB (Kd.R_new' ho0 (Kd.R_lt (by (with_reducible repeat (first | apply Kd.R_alloc | apply Kd.R_drewN | apply Kd.R_drew)); exact (Kd.R_mono (Kd.R_far (p := ⟨gb280, 0, none⟩) (Kd.R_mono HO_35.out (fun k_ hk => (⟨hk, hk.2⟩ : _ ∧ k_ ≠ gb280))) (fun _ hk => hk.2) (.int .i64 (rd t276 x37_3))) (fun _ h_ => h_.1))))) (g := gb274) (o := .cells #[.int .i64 (rd l0_1 x21_1)] 3 (0, 0)) (by (with_reducible repeat (first | refine blk_drewN ?_ _ | refine blk_drew ?_ | refine blk_alloc ?_ _)); refine blk_far ?_ NB274_280.out _; exact pK BK274.out)) (g := gb280) (o := .cells #[.int .i64 (rd t276 x37_3)] 3 (0, 0)) (by (with_reducible repeat (first | refine blk_drewN ?_ _ | refine blk_drew ?_ | refine blk_alloc ?_ _)); refine blk_put (cs := #[.int .i64 0]) ?_ 0 _ rfl; exact pK BK280.out)) (below_size pB)); replace HO_35 := Aside0.mk (Kd.R_elder' (by (with_reducible repeat (first | apply Kd.R_alloc | apply Kd.R_drewN | apply Kd.R_drew)); exact (Kd.R_mono (Kd.R_far (p := ⟨gb280, 0, none⟩) (Kd.R_mono HO_35.out (fun k_ hk => (⟨hk, hk.2⟩ : _ ∧ k_ ≠ gb280))) (fun _ hk => hk.2) (.int .i64 (rd t276 x37_3))) (fun _ h_ => h_.1))) (Kd.R_base ho0) hb); replace BK270 := Aside0.mk (blk_below (g := gb270) (o := .cells #[.int .i64 a0_0, .slice (some ad273) l0_1.length c0_1] 27 (0, 0)) (by (with_reducible repeat (first | refine blk_drewN ?_ _ | refine blk_drew ?_ | refine blk_alloc ?_ _)); refine blk_far ?_ NB270_280.out _; exact pK BK270.out) hb); replace BK271 := Aside0.mk (blk_below (g := gb271) (o := .cells #[.int .i64 x272000_3, .int .i64 x272001_3, .int .i64 x272002_3] 50 (0, 0)) (by (with_reducible repeat (first | refine blk_drewN ?_ _ | refine blk_drew ?_ | refine blk_alloc ?_ _)); refine blk_far ?_ NB271_280.out _; exact pK BK271.out) hb); replace BK274 := Aside0.mk (blk_below (g := gb274) (o := .cells #[.int .i64 (rd l0_1 x21_1)] 3 (0, 0)) (by (with_reducible repeat (first | refine blk_drewN ?_ _ | refine blk_drew ?_ | refine blk_alloc ?_ _)); refine blk_far ?_ NB274_280.out _; exact pK BK274.out) hb); replace BK280 := Aside0.mk (blk_below (g := gb280) (o := .cells #[.int .i64 (rd t276 x37_3)] 3 (0, 0)) (by (with_reducible repeat (first | refine blk_drewN ?_ _ | refine blk_drew ?_ | refine blk_alloc ?_ _)); refine blk_put (cs := #[.int .i64 0]) ?_ 0 _ rfl; exact pK BK280.out) hb); replace HB := Aside0.mk (below_step pB hb); (try clear hb); (try clear hb2); (try clear hk); (try clear hi); (try clear ho0); obtain ⟨Ao52, co52, eo52⟩ := Kd.R_slice HO283.out; subst eo52) | ((with_reducible refine gate_callee (f := 60) rfl ?_); refine goesL_ (some 46) rfl rfl Try.func60 kr rfl #[.slice Ao52 t281.length co52, .func (.func 61) #[] #[.pointer (some ⟨gb270, 0, none⟩), .pointer (some ⟨gb274, 0, none⟩), .pointer (some ⟨gb280, 0, none⟩)]] rfl p5 ?_; (with_reducible refine (impl_FirstFailure_any.calls _ _ t281 a0_0 _ _ l0_1 (rd l0_1 x21_1) (rd t276 x37_3) false _ ?side1 ?side2 ?side3 ?side4 A30.out gb270 (by repeat (first | exact BK270.out | (with_reducible refine blk_drewN ?_ _) | (with_reducible refine blk_drew ?_) | (with_reducible refine blk_alloc ?_ _) | exact blk_put BK270.out 0 _ rfl | (with_reducible refine blk_far ?_ NB270_274.out _) | (with_reducible refine blk_far ?_ NB270_280.out _))) gb274 (by repeat (first | exact BK274.out | (with_reducible refine blk_drewN ?_ _) | (with_reducible refine blk_drew ?_) | (with_reducible refine blk_alloc ?_ _) | exact blk_put BK274.out 0 _ rfl | (with_reducible refine blk_far ?_ NB274_270.out _) | (with_reducible refine blk_far ?_ NB274_280.out _))) gb280 (by repeat (first | exact BK280.out | (with_reducible refine blk_drewN ?_ _) | (with_reducible refine blk_drew ?_) | (with_reducible refine blk_alloc ?_ _) | exact blk_put BK280.out 0 _ rfl | (with_reducible refine blk_far ?_ NB280_270.out _) | (with_reducible refine blk_far ?_ NB280_274.out _)))).mono ?_); (case side1 => repeat (first | exact (Kd.R_reads' HO283.out).2.2 | (with_reducible refine Kd.C_alloc ?_ _) | (with_reducible refine Kd.C_drewN ?_ _) | (with_reducible refine Kd.C_drew ?_))); (case side2 => exact (Kd.R_reads' HO283.out).2.1); (case side3 => exact pC (Kd.C_below HR0_1.out HB.out)); (case side4 => exact HC0_1.out); rintro e w53 ⟨rfl, hb⟩; refine ⟨_, rfl, ?_⟩; replace HO_35 := Aside0.mk (Kd.R_below (pR HO_35.out) hb); replace HO283 := Aside0.mk (Kd.R_below (pR HO283.out) hb); replace BK270 := Aside0.mk (bB BK270.out hb); replace BK271 := Aside0.mk (bB BK271.out hb); replace BK274 := Aside0.mk (bB BK274.out hb); replace BK280 := Aside0.mk (bB BK280.out hb); replace HB := Aside0.mk (below_step pB hb); (try clear hb); (try clear hb2); (try clear hk); (try clear hi); obtain ⟨hcz54_0, hfz54_0⟩ := bc1 BK274.out; obtain ⟨hcz55_0, hfz55_0⟩ := bc1 BK280.out; have hnb56 := NB271_270.out; have hnc56 := NB270_271.out; have hcz57_0 : w53.cell? ⟨gb271, 0, none⟩ = some (.int .i64 x272000_3) := (blk_cell BK271.out 0).trans rfl; have hcz57_1 : w53.cell? ⟨gb271, 1, none⟩ = some (.int .i64 x272001_3) := (blk_cell BK271.out 1).trans rfl; have hcz57_2 : w53.cell? ⟨gb271, 2, none⟩ = some (.int .i64 x272002_3) := (blk_cell BK271.out 2).trans rfl; have hfz57_0 := blk_frozen BK271.out 0; have hfz57_1 := blk_frozen BK271.out 1; have hfz57_2 := blk_frozen BK271.out 2))
                  refine bodyPost_ret (results_ct rfl _ _ gb271 50 #[.int .i64 (rd l0_1 x21_1), .int .i64 (rd l0_1 x28_2), .int .i64 (rd t276 x37_3)] (0, 0) _ rfl (by (with_reducible repeat (first | refine blk_drewN ?_ _ | refine blk_drew ?_ | refine blk_alloc ?_ _)); refine blk_put (cs := #[.int .i64 (rd l0_1 x21_1), .int .i64 (rd l0_1 x28_2), .int .i64 x272002_3]) ?_ 2 _ rfl; (with_reducible repeat (first | refine blk_drewN ?_ _ | refine blk_drew ?_ | refine blk_alloc ?_ _)); refine blk_put (cs := #[.int .i64 (rd l0_1 x21_1), .int .i64 x272001_3, .int .i64 x272002_3]) ?_ 1 _ rfl; (with_reducible repeat (first | refine blk_drewN ?_ _ | refine blk_drew ?_ | refine blk_alloc ?_ _)); refine blk_put (cs := #[.int .i64 x272000_3, .int .i64 x272001_3, .int .i64 x272002_3]) ?_ 0 _ rfl; exact pK BK271.out) Try.underlying50 rfl kr) rfl ?_
                  exact ⟨p8, pB⟩
                ·rw [if_neg c28] at H
                 exact absurd H (by simp)
               ·rw [if_neg c27] at H
                exact absurd H (by simp)
              ·rw [if_neg c26] at H
               have c26b0 : decide (x37_3 < (t276.length : Int)) = false := decide_eq_false c26
               clear c26
               have H' := Aside0.mk H
               clear H
               go_wp2
               go_roundg k3
               case measure => have := HK1.out; have := HK2.out; have := HK3.out; omega
               case rel => exact ⟨(wrap64 (x28_2 + 1)), (x272000_3), (x272001_3), (x272002_3), p7, H', ⟨by have := HK1.out; have := HK2.out; have := HK3.out; omega⟩, ⟨pK BK270.out⟩, ⟨pK BK271.out⟩, ⟨pK BK274.out⟩, ⟨pB⟩⟩
           ·rw [if_neg c19] at H
            exact absurd H (by simp)
          ·rw [if_neg c18] at H
           exact absurd H (by simp)
         ·rw [if_neg c17] at H
          have c17b0 : decide (x28_2 < (l0_1.length : Int)) = false := decide_eq_false c17
          clear c17
          have H' := Aside0.mk H
          clear H
          go_wp2
          go_roundg k2
          case measure => have := HK1.out; have := HK2.out; omega
          case rel => exact ⟨(wrap64 (x21_1 + 1)), (x272000_2), (x272001_2), (x272002_2), p7, H', ⟨by have := HK1.out; have := HK2.out; omega⟩, ⟨pK BK270.out⟩, ⟨pK BK271.out⟩, ⟨pB⟩⟩
      ·rw [if_neg c10] at H
       exact absurd H (by simp)
     ·rw [if_neg c9] at H
      exact absurd H (by simp)
    ·rw [if_neg c8] at H
     have c8b0 : decide (x21_1 < (l0_1.length : Int)) = false := decide_eq_false c8
     clear c8
     simp only [Option.some.injEq, Prod.mk.injEq] at H
     obtain ⟨rfl, rfl, rfl, rfl⟩ := H
     have hnb58 := NB271_270.out
     have hnc58 := NB270_271.out
     have hcz59_0 : wr.cell? ⟨gb271, 0, none⟩ = some (.int .i64 x272000_1) := (blk_cell BK271.out 0).trans rfl
     have hcz59_1 : wr.cell? ⟨gb271, 1, none⟩ = some (.int .i64 x272001_1) := (blk_cell BK271.out 1).trans rfl
     have hcz59_2 : wr.cell? ⟨gb271, 2, none⟩ = some (.int .i64 x272002_1) := (blk_cell BK271.out 2).trans rfl
     have hfz59_0 := blk_frozen BK271.out 0
     have hfz59_1 := blk_frozen BK271.out 1
     have hfz59_2 := blk_frozen BK271.out 2
     go_wp2
     refine bodyPost_ret (results_ct rfl _ _ gb271 50 #[.int .i64 0, .int .i64 0, .int .i64 0] (0, 0) _ rfl (by (with_reducible repeat (first | refine blk_drewN ?_ _ | refine blk_drew ?_ | refine blk_alloc ?_ _)); refine blk_put (cs := #[.int .i64 0, .int .i64 0, .int .i64 x272002_1]) ?_ 2 _ rfl; (with_reducible repeat (first | refine blk_drewN ?_ _ | refine blk_drew ?_ | refine blk_alloc ?_ _)); refine blk_put (cs := #[.int .i64 0, .int .i64 x272001_1, .int .i64 x272002_1]) ?_ 1 _ rfl; (with_reducible repeat (first | refine blk_drewN ?_ _ | refine blk_drew ?_ | refine blk_alloc ?_ _)); refine blk_put (cs := #[.int .i64 x272000_1, .int .i64 x272001_1, .int .i64 x272002_1]) ?_ 0 _ rfl; exact pK BK271.out) Try.underlying50 rfl kr) rfl ?_
     exact ⟨p8, pB⟩
 ·replace c3 := Bool.eq_false_iff.mpr c3
  subst c3
  replace H := iN H
  simp only [Option.some.injEq, Prod.mk.injEq] at H
  obtain ⟨rfl, rfl, rfl, rfl⟩ := H
  go_enter Try.func45, Try.ntmps45
  go_wp2_with (first | ((with_reducible refine gate_dst (N := 1) rfl ?_); refine box_event ?hg (N := 1) ?hd (cs := #[.int .i64 a0_0, .slice A0_1 l0_1.length c0_1]) (t := 27) ?hr ?_; (case hd => rfl); (case hg => rfl); (case hr => first | (go_simp; done) | (go_simp; rfl)); intro gb270 hg w60 hbox hb; have BK270 := Aside0.mk (hbox); have GW270 := Aside0.mk (bZ (w := w) hg); have GE270 := Aside0.mk (bZ (w := w) hg); replace HB := Aside0.mk (below_step pB hb); clear hb hbox hg) | ((with_reducible refine gate_dst (N := 2) rfl ?_); refine box_event ?hg (N := 2) ?hd (cs := #[.int .i64 0, .int .i64 0, .int .i64 0]) (t := 50) ?hr ?_; (case hd => rfl); (case hg => rfl); (case hr => first | (go_simp; done) | (go_simp; rfl)); intro gb271 hg w61 hbox hb; have BK271 := Aside0.mk (hbox); have GW271 := Aside0.mk (bZ (w := w) hg); have GE271 := Aside0.mk (bZ (w := w) hg); replace HB := Aside0.mk (below_step pB hb); have NB270_271 := Aside0.mk (bL BK270.out hg); have NB271_270 := Aside0.mk (bG BK270.out hg); replace BK270 := Aside0.mk (bB BK270.out hb); clear hb hbox hg; have hnb62 := NB270_271.out; have hnc62 := NB271_270.out; obtain ⟨hcz63_0, hcz63_1, hfz63_0, hfz63_1⟩ := bc2 BK270.out) | ((with_reducible refine gate_callee (f := 46) rfl ?_); refine goesL_ (some 15) rfl rfl Try.func46 kr rfl #[.int .i64 a0_0, .slice A0_1 l0_1.length c0_1] rfl p5 ?_; (with_reducible refine (impl_IsFamily.calls k a0_0 _ _ l0_1 false _ ?side1 ?side2 A2.out).mono ?_); (case side1 => exact pC (Kd.C_below HR0_1.out HB.out)); (case side2 => exact HC0_1.out); rintro e w' ⟨rfl, ⟨nd, rfl⟩⟩; refine ⟨_, rfl, ?_⟩; (try (rw [drewN_self w61]; generalize hq_ : World.drewN w61 _ = w61; have n0_ : Aside0 (w61.heap[gb270]? = some (.cells #[.int .i64 a0_0, .slice A0_1 l0_1.length c0_1] 27 (0, 0))) := ⟨by rw [← hq_]; exact (pK BK270.out)⟩; have n1_ : Aside0 (w61.heap[gb271]? = some (.cells #[.int .i64 0, .int .i64 0, .int .i64 0] 50 (0, 0))) := ⟨by rw [← hq_]; exact (pK BK271.out)⟩; have n2_ : Aside0 (Below w.heap.size w w61) := ⟨by rw [← hq_]; exact pB⟩; clear BK270 BK271 HB hq_; have BK270 := n0_; have BK271 := n1_; have HB := n2_; clear n0_ n1_ n2_)); have hcz64_0 : w61.cell? ⟨gb271, 0, none⟩ = some (.int .i64 0) := (blk_cell BK271.out 0).trans rfl; have hcz64_1 : w61.cell? ⟨gb271, 1, none⟩ = some (.int .i64 0) := (blk_cell BK271.out 1).trans rfl; have hcz64_2 : w61.cell? ⟨gb271, 2, none⟩ = some (.int .i64 0) := (blk_cell BK271.out 2).trans rfl; have hfz64_0 := blk_frozen BK271.out 0; have hfz64_1 := blk_frozen BK271.out 1; have hfz64_2 := blk_frozen BK271.out 2))
  refine bodyPost_ret (results_ct rfl _ _ gb271 50 #[.int .i64 0, .int .i64 0, .int .i64 0] (0, 0) _ rfl (by (with_reducible repeat (first | refine blk_drewN ?_ _ | refine blk_drew ?_ | refine blk_alloc ?_ _)); refine blk_put (cs := #[.int .i64 0, .int .i64 0, .int .i64 0]) ?_ 2 _ rfl; (with_reducible repeat (first | refine blk_drewN ?_ _ | refine blk_drew ?_ | refine blk_alloc ?_ _)); refine blk_put (cs := #[.int .i64 0, .int .i64 0, .int .i64 0]) ?_ 1 _ rfl; (with_reducible repeat (first | refine blk_drewN ?_ _ | refine blk_drew ?_ | refine blk_alloc ?_ _)); refine blk_put (cs := #[.int .i64 0, .int .i64 0, .int .i64 0]) ?_ 0 _ rfl; exact pK BK271.out) Try.underlying50 rfl kr) rfl ?_
  exact ⟨p8, pB⟩
def impl_IsMatroid.f (k : Nat) (a0_0 : Int) (l0_1 : List Int) : Option (Bool) := (impl_FirstFailure.f k a0_0 l0_1).bind fun bt286 => ((impl_IsFamily.f k a0_0 l0_1).bind fun t291 => (if t291 = true then (if (l0_1.length : Int) > 0 then (some (!bt286.2.2.2)) else (some false)) else (some false)))
set_option maxHeartbeats 8000000 in
set_option maxRecDepth 100000 in
theorem impl_IsMatroid.calls (k : Nat) (a0_0 : Int) (A0_1 : Option Addr) (c0_1 : Nat) (l0_1 : List Int) (r : Bool) (w : World) (hr0_1 : Kd.C (Kd.int .i64) w A0_1 l0_1.length l0_1) (hc0_1 : l0_1.length ≤ c0_1) (h : impl_IsMatroid.f k a0_0 l0_1 = some r) :
  Calls Try.prog 30 #[.agg #[.int .i64 a0_0, .slice A0_1 l0_1.length c0_1]] w fun e w' => e = .returned (.bool r) ∧ Below w.heap.size w w' := by
 have hu27 := Try.underlying27
 have hu50 := Try.underlying50
 have HR0_1 := Aside0.mk hr0_1
 have HC0_1 := Aside0.mk hc0_1
 clear hr0_1 hc0_1
 have HB := Aside0.mk (Below.refl w.heap.size w)
 have H : ((impl_FirstFailure.f k a0_0 l0_1).bind fun bt286 => ((impl_IsFamily.f k a0_0 l0_1).bind fun t291 => (if t291 = true then (if (l0_1.length : Int) > 0 then (some (!bt286.2.2.2)) else (some false)) else (some false)))) = some r := h
 clear h
 replace H := Option.bind_eq_some_iff.mp H
 obtain ⟨⟨t286, t287, t288, t289⟩, A20, H⟩ := H
 replace H : ((impl_IsFamily.f k a0_0 l0_1).bind fun t291 => (if t291 = true then (if (l0_1.length : Int) > 0 then (some (!t289)) else (some false)) else (some false))) = some r := H
 have A2 := Aside0.mk A20
 clear A20
 replace H := bS H
 obtain ⟨t291, A3, H⟩ := H
 by_cases c4 : t291 = true
 ·subst c4
  replace H := iP H
  by_cases c5 : (l0_1.length : Int) > 0
  ·rw [if_pos c5] at H
   have c5b0 : decide (0 < (l0_1.length : Int)) = true := decide_eq_true c5
   have c5b1 : decide (0 < l0_1.length) = true := decide_eq_true (by omega)
   clear c5
   obtain rfl := Option.some.inj H
   go_enter Try.func30, Try.ntmps30
   go_wp2_with (first | ((with_reducible refine gate_dst (N := 1) rfl ?_); (try (refine gate_guard (by rfl) ?_; dsimp only)); refine box_event ?hg (N := 1) ?hd (cs := #[.int .i64 a0_0, .slice A0_1 l0_1.length c0_1]) (t := 27) ?hr ?_; (case hd => rfl); (case hg => rfl); (case hr => first | (go_simp; done) | (go_simp; rfl)); intro gb285 hg w6 hbox hb; have BK285 := Aside0.mk (hbox); have GW285 := Aside0.mk (bZ (w := w) hg); have GE285 := Aside0.mk (bZ (w := w) hg); replace HB := Aside0.mk (below_step pB hb); clear hb hbox hg; obtain ⟨hcz7_0, hcz7_1, hfz7_0, hfz7_1⟩ := bc2 BK285.out) | ((with_reducible refine gate_callee (f := 45) rfl ?_); refine goesL_ (some 7) rfl rfl Try.func45 kr rfl #[.agg #[.int .i64 a0_0, .slice A0_1 l0_1.length c0_1]] rfl p5 ?_; (with_reducible refine (impl_FirstFailure.calls k a0_0 _ _ l0_1 t286 t287 t288 t289 _ ?side1 ?side2 A2.out).mono ?_); (case side1 => exact pC (Kd.C_below HR0_1.out HB.out)); (case side2 => exact HC0_1.out); rintro e w8 ⟨rfl, hb⟩; refine ⟨_, rfl, ?_⟩; replace BK285 := Aside0.mk (bB BK285.out hb); replace HB := Aside0.mk (below_step pB hb); (try clear hb); (try clear hb2); (try clear hk); (try clear hi)) | ((with_reducible refine gate_dst (N := 3) rfl ?_); (try (refine gate_guard (by rfl) ?_; dsimp only)); refine box_event ?hg (N := 3) ?hd (cs := #[.int .i64 0, .int .i64 0, .int .i64 0]) (t := 50) ?hr ?_; (case hd => rfl); (case hg => rfl); (case hr => first | (go_simp; done) | (go_simp; rfl)); intro gb290 hg w9 hbox hb; have BK290 := Aside0.mk (hbox); have GW290 := Aside0.mk (bZ (w := w) hg); have GE290 := Aside0.mk (bZ (w := w) hg); replace HB := Aside0.mk (below_step pB hb); have NB285_290 := Aside0.mk (bL BK285.out hg); have NB290_285 := Aside0.mk (bG BK285.out hg); replace BK285 := Aside0.mk (bB BK285.out hb); clear hb hbox hg; have hnb10 := NB290_285.out; have hnc10 := NB285_290.out; have hcz11_0 : w9.cell? ⟨gb290, 0, none⟩ = some (.int .i64 0) := (blk_cell BK290.out 0).trans rfl; have hcz11_1 : w9.cell? ⟨gb290, 1, none⟩ = some (.int .i64 0) := (blk_cell BK290.out 1).trans rfl; have hcz11_2 : w9.cell? ⟨gb290, 2, none⟩ = some (.int .i64 0) := (blk_cell BK290.out 2).trans rfl; have hfz11_0 := blk_frozen BK290.out 0; have hfz11_1 := blk_frozen BK290.out 1; have hfz11_2 := blk_frozen BK290.out 2; obtain ⟨hcz12_0, hcz12_1, hfz12_0, hfz12_1⟩ := bc2 BK285.out) | ((with_reducible refine gate_callee (f := 46) rfl ?_); refine goesL_ (some 14) rfl rfl Try.func46 kr rfl #[.int .i64 a0_0, .slice A0_1 l0_1.length c0_1] rfl p5 ?_; (with_reducible refine (impl_IsFamily.calls k a0_0 _ _ l0_1 true _ ?side1 ?side2 A3.out).mono ?_); (case side1 => exact Kd.C_below HR0_1.out pB); (case side2 => exact HC0_1.out); rintro e w' ⟨rfl, ⟨nd, rfl⟩⟩; refine ⟨_, rfl, ?_⟩))
   go_ret
   exact ⟨p8, pB⟩
  ·rw [if_neg c5] at H
   have c5b0 : decide (0 < (l0_1.length : Int)) = false := decide_eq_false c5
   have c5b1 : decide (0 < l0_1.length) = false := decide_eq_false (by omega)
   clear c5
   obtain rfl := Option.some.inj H
   go_enter Try.func30, Try.ntmps30
   go_wp2_with (first | ((with_reducible refine gate_dst (N := 1) rfl ?_); (try (refine gate_guard (by rfl) ?_; dsimp only)); refine box_event ?hg (N := 1) ?hd (cs := #[.int .i64 a0_0, .slice A0_1 l0_1.length c0_1]) (t := 27) ?hr ?_; (case hd => rfl); (case hg => rfl); (case hr => first | (go_simp; done) | (go_simp; rfl)); intro gb285 hg w13 hbox hb; have BK285 := Aside0.mk (hbox); have GW285 := Aside0.mk (bZ (w := w) hg); have GE285 := Aside0.mk (bZ (w := w) hg); replace HB := Aside0.mk (below_step pB hb); clear hb hbox hg; obtain ⟨hcz14_0, hcz14_1, hfz14_0, hfz14_1⟩ := bc2 BK285.out) | ((with_reducible refine gate_callee (f := 45) rfl ?_); refine goesL_ (some 7) rfl rfl Try.func45 kr rfl #[.agg #[.int .i64 a0_0, .slice A0_1 l0_1.length c0_1]] rfl p5 ?_; (with_reducible refine (impl_FirstFailure.calls k a0_0 _ _ l0_1 t286 t287 t288 t289 _ ?side1 ?side2 A2.out).mono ?_); (case side1 => exact pC (Kd.C_below HR0_1.out HB.out)); (case side2 => exact HC0_1.out); rintro e w15 ⟨rfl, hb⟩; refine ⟨_, rfl, ?_⟩; replace BK285 := Aside0.mk (bB BK285.out hb); replace HB := Aside0.mk (below_step pB hb); (try clear hb); (try clear hb2); (try clear hk); (try clear hi)) | ((with_reducible refine gate_dst (N := 3) rfl ?_); (try (refine gate_guard (by rfl) ?_; dsimp only)); refine box_event ?hg (N := 3) ?hd (cs := #[.int .i64 0, .int .i64 0, .int .i64 0]) (t := 50) ?hr ?_; (case hd => rfl); (case hg => rfl); (case hr => first | (go_simp; done) | (go_simp; rfl)); intro gb290 hg w16 hbox hb; have BK290 := Aside0.mk (hbox); have GW290 := Aside0.mk (bZ (w := w) hg); have GE290 := Aside0.mk (bZ (w := w) hg); replace HB := Aside0.mk (below_step pB hb); have NB285_290 := Aside0.mk (bL BK285.out hg); have NB290_285 := Aside0.mk (bG BK285.out hg); replace BK285 := Aside0.mk (bB BK285.out hb); clear hb hbox hg; have hnb17 := NB290_285.out; have hnc17 := NB285_290.out; have hcz18_0 : w16.cell? ⟨gb290, 0, none⟩ = some (.int .i64 0) := (blk_cell BK290.out 0).trans rfl; have hcz18_1 : w16.cell? ⟨gb290, 1, none⟩ = some (.int .i64 0) := (blk_cell BK290.out 1).trans rfl; have hcz18_2 : w16.cell? ⟨gb290, 2, none⟩ = some (.int .i64 0) := (blk_cell BK290.out 2).trans rfl; have hfz18_0 := blk_frozen BK290.out 0; have hfz18_1 := blk_frozen BK290.out 1; have hfz18_2 := blk_frozen BK290.out 2; obtain ⟨hcz19_0, hcz19_1, hfz19_0, hfz19_1⟩ := bc2 BK285.out) | ((with_reducible refine gate_callee (f := 46) rfl ?_); refine goesL_ (some 14) rfl rfl Try.func46 kr rfl #[.int .i64 a0_0, .slice A0_1 l0_1.length c0_1] rfl p5 ?_; (with_reducible refine (impl_IsFamily.calls k a0_0 _ _ l0_1 true _ ?side1 ?side2 A3.out).mono ?_); (case side1 => exact Kd.C_below HR0_1.out pB); (case side2 => exact HC0_1.out); rintro e w' ⟨rfl, ⟨nd, rfl⟩⟩; refine ⟨_, rfl, ?_⟩))
   go_ret
   exact ⟨p8, pB⟩
 ·replace c4 := Bool.eq_false_iff.mpr c4
  subst c4
  replace H := iN H
  obtain rfl := Option.some.inj H
  go_enter Try.func30, Try.ntmps30
  go_wp2_with (first | ((with_reducible refine gate_dst (N := 1) rfl ?_); (try (refine gate_guard (by rfl) ?_; dsimp only)); refine box_event ?hg (N := 1) ?hd (cs := #[.int .i64 a0_0, .slice A0_1 l0_1.length c0_1]) (t := 27) ?hr ?_; (case hd => rfl); (case hg => rfl); (case hr => first | (go_simp; done) | (go_simp; rfl)); intro gb285 hg w20 hbox hb; have BK285 := Aside0.mk (hbox); have GW285 := Aside0.mk (bZ (w := w) hg); have GE285 := Aside0.mk (bZ (w := w) hg); replace HB := Aside0.mk (below_step pB hb); clear hb hbox hg; obtain ⟨hcz21_0, hcz21_1, hfz21_0, hfz21_1⟩ := bc2 BK285.out) | ((with_reducible refine gate_callee (f := 45) rfl ?_); refine goesL_ (some 7) rfl rfl Try.func45 kr rfl #[.agg #[.int .i64 a0_0, .slice A0_1 l0_1.length c0_1]] rfl p5 ?_; (with_reducible refine (impl_FirstFailure.calls k a0_0 _ _ l0_1 t286 t287 t288 t289 _ ?side1 ?side2 A2.out).mono ?_); (case side1 => exact pC (Kd.C_below HR0_1.out HB.out)); (case side2 => exact HC0_1.out); rintro e w22 ⟨rfl, hb⟩; refine ⟨_, rfl, ?_⟩; replace BK285 := Aside0.mk (bB BK285.out hb); replace HB := Aside0.mk (below_step pB hb); (try clear hb); (try clear hb2); (try clear hk); (try clear hi)) | ((with_reducible refine gate_dst (N := 3) rfl ?_); (try (refine gate_guard (by rfl) ?_; dsimp only)); refine box_event ?hg (N := 3) ?hd (cs := #[.int .i64 0, .int .i64 0, .int .i64 0]) (t := 50) ?hr ?_; (case hd => rfl); (case hg => rfl); (case hr => first | (go_simp; done) | (go_simp; rfl)); intro gb290 hg w23 hbox hb; have BK290 := Aside0.mk (hbox); have GW290 := Aside0.mk (bZ (w := w) hg); have GE290 := Aside0.mk (bZ (w := w) hg); replace HB := Aside0.mk (below_step pB hb); have NB285_290 := Aside0.mk (bL BK285.out hg); have NB290_285 := Aside0.mk (bG BK285.out hg); replace BK285 := Aside0.mk (bB BK285.out hb); clear hb hbox hg; have hnb24 := NB290_285.out; have hnc24 := NB285_290.out; have hcz25_0 : w23.cell? ⟨gb290, 0, none⟩ = some (.int .i64 0) := (blk_cell BK290.out 0).trans rfl; have hcz25_1 : w23.cell? ⟨gb290, 1, none⟩ = some (.int .i64 0) := (blk_cell BK290.out 1).trans rfl; have hcz25_2 : w23.cell? ⟨gb290, 2, none⟩ = some (.int .i64 0) := (blk_cell BK290.out 2).trans rfl; have hfz25_0 := blk_frozen BK290.out 0; have hfz25_1 := blk_frozen BK290.out 1; have hfz25_2 := blk_frozen BK290.out 2; obtain ⟨hcz26_0, hcz26_1, hfz26_0, hfz26_1⟩ := bc2 BK285.out) | ((with_reducible refine gate_callee (f := 46) rfl ?_); refine goesL_ (some 14) rfl rfl Try.func46 kr rfl #[.int .i64 a0_0, .slice A0_1 l0_1.length c0_1] rfl p5 ?_; (with_reducible refine (impl_IsFamily.calls k a0_0 _ _ l0_1 false _ ?side1 ?side2 A3.out).mono ?_); (case side1 => exact Kd.C_below HR0_1.out pB); (case side2 => exact HC0_1.out); rintro e w' ⟨rfl, ⟨nd, rfl⟩⟩; refine ⟨_, rfl, ?_⟩))
  go_ret
  exact ⟨p8, pB⟩
def impl_areSets.l0 : Nat → List Int → Int → Int → Option (Bool)
 | 0, _, _, _ => none
 | k + 1, x5, x6, x7 => if x7 < x6 then (if 0 ≤ x7 then (if x7 < (x5.length : Int) then ((impl_isAny.f (rd x5 x7)).bind fun t312 => (if t312 = true then (impl_areSets.l0 k x5 x6 (wrap64 (x7 + 1))) else (some false))) else (none)) else (none)) else (some true)
def impl_areSets.f (k : Nat) (l0 : List Int) : Option (Bool) := impl_areSets.l0 k l0 (l0.length : Int) 0
set_option maxHeartbeats 8000000 in
set_option maxRecDepth 100000 in
theorem impl_areSets.calls (k : Nat) (A0 : Option Addr) (c0 : Nat) (l0 : List Int) (r : Bool) (w : World) (hr0 : Kd.C (Kd.int .i64) w A0 l0.length l0) (hc0 : l0.length ≤ c0) (h : impl_areSets.f k l0 = some r) :
  Calls Try.prog 80 #[.slice A0 l0.length c0] w fun e w' => e = .returned (.bool r) ∧ Drawn0 w w' := by
 have HR0 := Aside0.mk hr0
 have HC0 := Aside0.mk hc0
 clear hr0 hc0
 have H : (impl_areSets.l0 k l0 (l0.length : Int) 0) = some r := h
 clear h
 have H' := Aside0.mk H
 clear H
 go_enter Try.func80, Try.ntmps80
 go_wp2
 go_loopg [7] k (fun kq v7 w' => ∃ (x7_1 : Int), v7 = .int .i64 x7_1 ∧ Aside0 (impl_areSets.l0 kq l0 (l0.length : Int) x7_1 = some r) ∧ Aside0 (kq ≤ k) ∧ Drawn0 w w')
 case atStart => exact ⟨(0), p7, H', ⟨Nat.le_refl _⟩, by repeat (first | exact Drawn0.refl _ | apply Drawn0.step)⟩
 case round =>
  clear H'
  obtain ⟨x7_1, rfl, HA, HK1, ⟨m1, rfl⟩⟩ := hrel
  cases gk with
  | zero => exact absurd HA.out (by simp [impl_areSets.l0])
  | succ k1 =>
   have H := HA.out
   clear HA
   simp only [impl_areSets.l0] at H
   by_cases c2 : x7_1 < (l0.length : Int)
   ·rw [if_pos c2] at H
    have c2b0 : decide (x7_1 < (l0.length : Int)) = true := decide_eq_true c2
    clear c2
    by_cases c3 : 0 ≤ x7_1
    ·rw [if_pos c3] at H
     have c3b0 : decide (0 ≤ x7_1) = true := decide_eq_true c3
     clear c3
     by_cases c4 : x7_1 < (l0.length : Int)
     ·rw [if_pos c4] at H
      have c4b0 : decide (x7_1 < (l0.length : Int)) = true := decide_eq_true c4
      clear c4
      replace H := bS H
      obtain ⟨t312, A5, H⟩ := H
      by_cases c6 : t312 = true
      ·subst c6
       replace H := iP H
       have H' := Aside0.mk H
       clear H
       have p311 : 0 ≤ (x7_1 : Int) := oD
       have q311 : x7_1 < (l0.length : Int) := oD
       obtain ⟨ad311, e311, hx311_0⟩ := Kd.at_int HR0.out x7_1 p311 q311
       cases e311
       replace p311 := eq_true p311
       replace q311 := eq_true q311
       go_wp2_with (first | ((with_reducible refine gate_callee (f := 47) rfl ?_); refine goesL_ (some 12) rfl rfl Try.func47 kr rfl #[.int .i64 (rd l0 x7_1)] rfl p5 ?_; (with_reducible refine (impl_isAny.calls (rd l0 x7_1) true _ A5.out).mono ?_); rintro e w' ⟨rfl, ⟨nd, rfl⟩⟩; refine ⟨_, rfl, ?_⟩))
       go_roundg k1
       case measure => have := HK1.out; omega
       case rel => exact ⟨(wrap64 (x7_1 + 1)), p7, H', ⟨by have := HK1.out; omega⟩, by repeat (first | exact Drawn0.refl _ | apply Drawn0.step)⟩
      ·replace c6 := Bool.eq_false_iff.mpr c6
       subst c6
       replace H := iN H
       obtain rfl := Option.some.inj H
       have p311 : 0 ≤ (x7_1 : Int) := oD
       have q311 : x7_1 < (l0.length : Int) := oD
       obtain ⟨ad311, e311, hx311_0⟩ := Kd.at_int HR0.out x7_1 p311 q311
       cases e311
       replace p311 := eq_true p311
       replace q311 := eq_true q311
       go_wp2_with (first | ((with_reducible refine gate_callee (f := 47) rfl ?_); refine goesL_ (some 12) rfl rfl Try.func47 kr rfl #[.int .i64 (rd l0 x7_1)] rfl p5 ?_; (with_reducible refine (impl_isAny.calls (rd l0 x7_1) false _ A5.out).mono ?_); rintro e w' ⟨rfl, ⟨nd, rfl⟩⟩; refine ⟨_, rfl, ?_⟩))
       go_ret
       exact ⟨p7, by repeat (first | exact Drawn0.refl _ | apply Drawn0.step)⟩
     ·rw [if_neg c4] at H
      exact absurd H (by simp)
    ·rw [if_neg c3] at H
     exact absurd H (by simp)
   ·rw [if_neg c2] at H
    have c2b0 : decide (x7_1 < (l0.length : Int)) = false := decide_eq_false c2
    clear c2
    obtain rfl := Option.some.inj H
    go_wp2
    go_ret
    exact ⟨p7, by repeat (first | exact Drawn0.refl _ | apply Drawn0.step)⟩
def impl_SortSets.f (l0 : List Int) : Option (List Int) := if l0.length < 17592186044416 then some (sortSets l0) else none
set_option maxHeartbeats 8000000 in
set_option maxRecDepth 100000 in
theorem impl_SortSets.calls (A0 : Option Addr) (c0 : Nat) (l0 : List Int) (r : List Int) (w : World) (hr0 : Kd.C (Kd.int .i64) w A0 l0.length l0) (hc0 : l0.length ≤ c0) (h : impl_SortSets.f l0 = some r) :
  Calls Try.prog 81 #[.slice A0 l0.length c0] w fun e w' => ∃ v0_ : Value, e = .returned (v0_) ∧ Kd.R (Kd.int .i64) 3 w' w.heap.size (fun _ => True) v0_ r ∧ Below w.heap.size w w' := by
 have HR0 := Aside0.mk hr0
 have HC0 := Aside0.mk hc0
 clear hr0 hc0
 have HB := Aside0.mk (Below.refl w.heap.size w)
 unfold impl_SortSets.f at h
 by_cases c6 : l0.length < 17592186044416
 ·rw [if_pos c6] at h
  obtain rfl := Option.some.inj h
  clear h
  have LM := Aside0.mk c6
  clear c6
  go_enter Try.func81, Try.ntmps81
  go_wp2_with (first | ((with_reducible refine gate_dst (N := 4) rfl ?_); refine Kd.R_lit (Kd.int .i64) _ 3 ?hg (N := 4) ?hd (xs := ([] : List Int)) (inner := []) (ok := fun _ => True) (okp := fun _ => True) ?hr ?hp (fun _ hk => hk) trivial (Below.refl _ _) (Nat.le_refl _) (by simp) ?_; (case hd => rfl); (case hg => rfl); (case hr => first | (go_simp; done) | (go_simp; rfl)); (case hp => exact (Reps.none _ _)); intro v177 w7 ho8 hb hg_ hnew_; clear hg_ hnew_; have HO1 := Aside0.mk (Kd.R_lower ho8 (below_size HB.out)); replace HB := Aside0.mk (below_step HB.out hb); clear hb ho8) | ((with_reducible refine gate_builtin (b := .append) (xs := #[.tmp 4, .tmp 5]) rfl ?_); at_builtin; refine Kd.R_append_rows (Kd.int .i64) (w0 := w) w.heap.size rfl (.tmp 4) (.tmp 5) 22 3 (.int .i64 0) 8 rfl Try.underlying22 info3 rfl (by decide) (by omega) v177 [] l0 _ _ _ (fun _ => True) (fun _ => False) rfl rfl ?aO ?aR (fun _ _ h => h) (fun _ h => h.elim) ?aF ?aB ?aS ?aL ?_; (case aR => exact (Kd.C_below HR0.out HB.out)); (case aB => exact HB.out); (case aF => exact (fun _ _ => trivial)); (case aO => exact HO1.out); (case aS => exact (below_size HB.out)); (case aL => have := LM.out; simp; omega); intro v180 w9 ho hb hg hat; have n0_ := Aside0.mk (hb); have n1_ := Aside0.mk (show Kd.R (Kd.int .i64) 3 w9 w.heap.size (fun _ => True) v180 l0 from ho); clear HB; clear HO1; have HB := n0_; have HO2 := n1_; clear n0_ n1_; clear ho hb hg hat) | (go_at_call 88; refine (sort_own HO2.out (by have := LM.out; omega)).mono ?_; rintro e w' ⟨rfl, ho, hg⟩; have n0_ := Aside0.mk ho; have n1_ := Aside0.mk (pw_below_grown HB.out _ HB.out.size hg (fun k e_ => Kd.R_base HO2.out k e_)); clear HB; clear HO2; have HO3 := n0_; have HB := n1_; clear n0_ n1_; clear ho hg) | (go_at_call 89; refine (compact_own HO3.out).mono ?_; rintro e w' ⟨v', rfl, ho, hg⟩; have n0_ := Aside0.mk ho; have n1_ := Aside0.mk (pw_below_grown HB.out _ HB.out.size hg (fun k e_ => Kd.R_base HO3.out k e_)); clear HB; clear HO3; have HO4 := n0_; have HB := n1_; clear n0_ n1_; clear ho hg))
  go_ret
  exact ⟨_, rfl, HO4.out, HB.out⟩
 ·rw [if_neg c6] at h
  cases h
end Go.Proofs.Ytbhckhblonkajaa.Q
