/- Part of a proof: contracts and lemmas that the row's text uses; joined by a program. -/
import Derived.Test.YtbhckhblonkajaaH04
import Derived.Test.YtbhckhblonkajaaH07
set_option linter.unusedVariables false
set_option linter.unusedSimpArgs false
namespace Go.Proofs.Ytbhckhblonkajaa.Q
open Go.RowKit Go.Proofs.YtbhckhblonkajaaW.PrintWords Go.Proofs.YtbhckhblonkajaaW.PrintLast Go.Proofs.YtbhckhblonkajaaW.PrintMore
attribute [local go_sem] max2_int min2_int max_two min_two max_three min_three max_four min_four
mutual
def impl_columnsOf.l0 : Nat → List Int → Int → Int → Int → Int → List Int → Int → Int → Int → List Int → Option (Int × Int × Int × List Int)
 | 0, _, _, _, _, _, _, _, _, _, _ => none
 | k + 1, x5, x7, xC, xA, xD, xE, xF, xG, xI, xB => if x7 < xA then (impl_columnsOf.l1 k x5 x7 x5 (x5.length : Int) 0 xC xA xD xE xF xG xI xB) else (some (xF, xG, xI, xB))
def impl_columnsOf.l1 : Nat → List Int → Int → List Int → Int → Int → Int → Int → Int → List Int → Int → Int → Int → List Int → Option (Int × Int × Int × List Int)
 | 0, _, _, _, _, _, _, _, _, _, _, _, _, _ => none
 | k + 1, x5, x7, x25, x26, x27, xC, xA, xD, xE, xF, xG, xI, xB => if x27 < x26 then (if 0 ≤ x27 then (if x27 < (x25.length : Int) then ((impl_Matrix_at.f xC xA xD xE x7 (rd x25 x27)).bind fun tJ => (if xB.length < 17592186044416 then (impl_columnsOf.l1 k x5 x7 x25 x26 (wrap64 (x27 + 1)) xC xA xD xE xF xG xI (xB ++ [tJ])) else (none))) else (none)) else (none)) else (impl_columnsOf.l0 k x5 (wrap64 (x7 + 1)) xC xA xD xE xF xG xI xB)
end
def impl_columnsOf.f (k : Nat) (a0_0 : Int) (a0_1 : Int) (a0_2 : Int) (l0_3 : List Int) (a1 : Int) : Option (Int × Int × Int × List Int) := (impl_ElementsOf.f k a1).bind fun tA => (impl_columnsOf.l0 k tA 0 a0_0 a0_1 a0_2 l0_3 a0_0 a0_1 (tA.length : Int) ([] : List Int))
def impl_columnsOf.T9 : Bool × List (List Nat × List Nat) := (true, [([], []), ([0], [0]), ([], []), ([], []), ([], []), ([2, 3, 4], [2, 3, 4]), ([5], [5]), ([1, 6, 5], [1, 6]), ([0, 1, 2, 3, 4, 5, 6, 7], []), ([8, 7, 7, 0, 1, 2, 3, 4, 5, 6, 7], [7, 8])])
def impl_columnsOf.B9 : List Nat := [0, 1, 0, 0, 0, 28, 60, 127, 255, 511]
theorem impl_columnsOf.tab9 : rtab .any (opsOf Try.f78 9) = impl_columnsOf.T9 := by kernel_rfl
theorem impl_columnsOf.bits9 : waitsOk impl_columnsOf.T9.2 impl_columnsOf.B9 = true := by kernel_rfl
set_option maxHeartbeats 8000000 in
set_option maxRecDepth 100000 in
theorem impl_columnsOf.calls (k : Nat) (a0_0 : Int) (a0_1 : Int) (a0_2 : Int) (A0_3 : Option Addr) (c0_3 : Nat) (l0_3 : List Int) (a1 : Int) (r1 : Int) (r2 : Int) (r3 : Int) (r4 : List Int) (w : World) (hr0_3 : Kd.C (Kd.int .i64) w A0_3 l0_3.length l0_3) (hc0_3 : l0_3.length ≤ c0_3) (h : impl_columnsOf.f k a0_0 a0_1 a0_2 l0_3 a1 = some (r1, r2, r3, r4)) :
  Calls Try.prog 78 #[.agg #[.int .i64 a0_0, .int .i64 a0_1, .int .i64 a0_2, .slice A0_3 l0_3.length c0_3], .int .i64 a1] w fun e w' => ∃ v3_ : Value, e = .returned (.agg #[.int .i64 r1, .int .i64 r2, .int .i64 r3, v3_]) ∧ Kd.R (Kd.int .i64) 3 w' w.heap.size (fun _ => True) v3_ r4 ∧ Below w.heap.size w w' := by
 have hu32 := Try.underlying32
 have HR0_3 := Aside0.mk hr0_3
 have HC0_3 := Aside0.mk hc0_3
 clear hr0_3 hc0_3
 have HB := Aside0.mk (Below.refl w.heap.size w)
 have H : ((impl_ElementsOf.f k a1).bind fun tF => (impl_columnsOf.l0 k tF 0 a0_0 a0_1 a0_2 l0_3 a0_0 a0_1 (tF.length : Int) ([] : List Int))) = some (r1, r2, r3, r4) := h
 clear h
 replace H := bS H
 obtain ⟨tF, A3, H⟩ := H
 have H' := Aside0.mk H
 clear H
 go_enter Try.func78, Try.ntmps78
 go_wp2_with (first | (refine bE 2 #[.int .i64 a0_0, .int .i64 a0_1, .int .i64 a0_2, .slice A0_3 l0_3.length c0_3] 32 ?_; intro gbB hg w4 hbox hb; have BKB := Aside0.mk hbox; have GWB := aZ w hg; have GEB := aZ w hg; replace HB := aH hb; clear hb hbox hg) | (refine bE 4 #[.int .i64 0, .int .i64 0, .int .i64 0, .slice none 0 0] 32 ?_; intro gbD hg w5 hbox hb; have BKD := Aside0.mk hbox; have GWD := aZ w hg; have GED := aZ w hg; replace HB := aH hb; have NBB_D := aL BKB hg; have NBD_B := aG BKB hg; replace BKB := aB BKB hb; clear hb hbox hg) | ((with_reducible refine gate_callee (f := 31) rfl ?_); refine goesL_ (some 11) rfl rfl Try.func31 kr rfl #[.int .i64 a1] rfl p5 ?_; (with_reducible refine (impl_ElementsOf.calls k a1 tF _ A3.out).mono ?_); rintro e w6 ⟨vO, rfl, ho0, hb⟩; refine ⟨_, rfl, ?_⟩; have HOJ := Aside0.mk (Kd.R_lower ho0 (below_size pB)); replace BKB := aB BKB hb; replace BKD := aB BKD hb; replace HB := aH hb; (try clear hb); (try clear ho0); have hnb7 := NBB_D.out; have hnc7 := NBD_B.out; obtain ⟨hcz8_0, hcz8_1, hcz8_2, hcz8_3, hfz8_0, hfz8_1, hfz8_2, hfz8_3⟩ := bc4 BKB.out; obtain ⟨Ao9, co9, eo9⟩ := Kd.R_slice HOJ.out; subst eo9) | (refine bE 6 #[.int .i64 0, .int .i64 0, .int .i64 0, .slice none 0 0] 32 ?_; intro gbA hg w10 hbox hb; replace HOJ := aR HOJ hb; have BKA := Aside0.mk hbox; have GWA := aZ w hg; have GEA := aZ w hg; replace HB := aH hb; have NBB_A := aL BKB hg; have NBA_B := aG BKB hg; replace BKB := aB BKB hb; have NBD_A := aL BKD hg; have NBA_D := aG BKD hg; replace BKD := aB BKD hb; clear hb hbox hg; have hnb11 := NBA_B.out; have hnc11 := NBB_A.out; have hnb12 := NBA_D.out; have hnc12 := NBD_A.out; obtain ⟨hcz13_0, hcz13_1, hcz13_2, hcz13_3, hfz13_0, hfz13_1, hfz13_2, hfz13_3⟩ := bc4 BKA.out))
 go_loopg [7] k (fun kq v7 w' => ∃ (x7_1 : Int) (xE_1 : List Int) (uE : Value), v7 = .int .i64 x7_1 ∧ Aside0 (impl_columnsOf.l0 kq tF x7_1 a0_0 a0_1 a0_2 l0_3 a0_0 a0_1 (tF.length : Int) xE_1 = some (r1, r2, r3, r4)) ∧ Aside0 (kq ≤ k) ∧ Aside0 (Kd.R (Kd.int .i64) 3 w' w.heap.size (fun k_ => some k_ ≠ (uE : Value).ownBlock) (.slice Ao9 tF.length co9) tF) ∧ Aside0 (Kd.R (Kd.int .i64) 3 w' w.heap.size (fun k_ => some k_ ≠ ((.slice Ao9 tF.length co9) : Value).ownBlock) uE xE_1) ∧ Aside0 (w'.heap[gbB]? = some (.cells #[.int .i64 a0_0, .int .i64 a0_1, .int .i64 a0_2, (.slice A0_3 l0_3.length c0_3)] 32 (0, 0))) ∧ Aside0 (w'.heap[gbD]? = some (.cells #[.int .i64 0, .int .i64 0, .int .i64 0, (.slice none 0 0)] 32 (0, 0))) ∧ Aside0 (w'.heap[gbA]? = some (.cells #[.int .i64 a0_0, .int .i64 a0_1, .int .i64 (tF.length : Int), uE] 32 (0, 0))) ∧ Aside0 (Below w.heap.size w w'))
 case atStart => exact ⟨(0), (([] : List Int)), (.slice none 0 0), p7, H', ⟨Nat.le_refl _⟩, ⟨by (with_reducible repeat (first | apply Kd.R_alloc | apply Kd.R_drewN | apply Kd.R_drew)); exact Kd.R_mono (Kd.R_far (p := ⟨gbA, 3, none⟩) (Kd.R_far (p := ⟨gbA, 2, none⟩) (Kd.R_far (p := ⟨gbA, 1, none⟩) (Kd.R_far (p := ⟨gbA, 0, none⟩) (Kd.R_types HOJ.out BKA.out (by decide)) (fun _ hk => hk.2) (.int .i64 a0_0)) (fun _ hk => hk.2) (.int .i64 a0_1)) (fun _ hk => hk.2) (.int .i64 (tF.length : Int))) (fun _ hk => hk.2) (.slice none 0 0)) (fun _ hk => (by simp [Value.ownBlock]))⟩, ⟨by first | exact Kd.R_nil _ _ _ _ _ | exact Kd.N_nil _ _ _ _ _ | exact Kd.V_nil _ _ _ _ _ | exact Kd.Q_nil _ _ _ _ _ | exact Kd.S_nil _ _ _ _ _⟩, ⟨qK BKB.out⟩, ⟨qK BKD.out⟩, ⟨by (with_reducible repeat (first | refine blk_drewN ?_ _ | refine blk_drew ?_ | refine blk_alloc ?_ _)); refine blk_put (cs := #[.int .i64 a0_0, .int .i64 a0_1, .int .i64 (tF.length : Int), .slice none 0 0]) ?_ 3 _ rfl; (with_reducible repeat (first | refine blk_drewN ?_ _ | refine blk_drew ?_ | refine blk_alloc ?_ _)); refine blk_put (cs := #[.int .i64 a0_0, .int .i64 a0_1, .int .i64 0, .slice none 0 0]) ?_ 2 _ rfl; (with_reducible repeat (first | refine blk_drewN ?_ _ | refine blk_drew ?_ | refine blk_alloc ?_ _)); refine blk_put (cs := #[.int .i64 a0_0, .int .i64 0, .int .i64 0, .slice none 0 0]) ?_ 1 _ rfl; (with_reducible repeat (first | refine blk_drewN ?_ _ | refine blk_drew ?_ | refine blk_alloc ?_ _)); refine blk_put (cs := #[.int .i64 0, .int .i64 0, .int .i64 0, .slice none 0 0]) ?_ 0 _ rfl; (with_reducible repeat (first | refine blk_drewN ?_ _ | refine blk_drew ?_ | refine blk_alloc ?_ _)); exact BKA.out⟩, ⟨pB⟩⟩
 case round =>
  clear H'
  try clear hcz13_0
  try clear hcz13_1
  try clear hcz13_2
  try clear hcz13_3
  try clear hcz8_0
  try clear hcz8_1
  try clear hcz8_2
  try clear hcz8_3
  try clear hfz13_0
  try clear hfz13_1
  try clear hfz13_2
  try clear hfz13_3
  try clear hfz8_0
  try clear hfz8_1
  try clear hfz8_2
  try clear hfz8_3
  obtain ⟨x7_1, xE_1, uE, rfl, HA, HK1, HO_5, HO_E, BKB, BKD, BKA, HB⟩ := hrel
  cases gk with
  | zero => exact absurd HA.out (by simp [impl_columnsOf.l0])
  | succ k1 =>
   have H := HA.out
   clear HA
   simp only [impl_columnsOf.l0] at H
   by_cases c14 : x7_1 < a0_1
   ·rw [if_pos c14] at H
    have c14b0 : decide (x7_1 < a0_1) = true := decide_eq_true c14
    clear c14
    have H' := Aside0.mk H
    clear H
    have hnb15 := NBB_D.out
    have hnc15 := NBD_B.out
    have hnb16 := NBB_A.out
    have hnc16 := NBA_B.out
    obtain ⟨hcz17_0, hcz17_1, hcz17_2, hcz17_3, hfz17_0, hfz17_1, hfz17_2, hfz17_3⟩ := bc4 BKB.out
    go_wp2
    go_loopg [27] k1 (fun kq v27 w' => ∃ (x27_2 : Int) (xE_2 : List Int) (uE : Value), v27 = .int .i64 x27_2 ∧ Aside0 (impl_columnsOf.l1 kq tF x7_1 tF (tF.length : Int) x27_2 a0_0 a0_1 a0_2 l0_3 a0_0 a0_1 (tF.length : Int) xE_2 = some (r1, r2, r3, r4)) ∧ Aside0 (kq ≤ k1) ∧ Aside0 (Kd.R (Kd.int .i64) 3 w' w.heap.size (fun k_ => some k_ ≠ (uE : Value).ownBlock) (.slice Ao9 tF.length co9) tF) ∧ Aside0 (Kd.R (Kd.int .i64) 3 w' w.heap.size (fun k_ => some k_ ≠ (uE : Value).ownBlock) (.slice Ao9 tF.length co9) tF) ∧ Aside0 (Kd.R (Kd.int .i64) 3 w' w.heap.size (fun k_ => some k_ ≠ ((.slice Ao9 tF.length co9) : Value).ownBlock ∧ some k_ ≠ ((.slice Ao9 tF.length co9) : Value).ownBlock) uE xE_2) ∧ Aside0 (w'.heap[gbB]? = some (.cells #[.int .i64 a0_0, .int .i64 a0_1, .int .i64 a0_2, (.slice A0_3 l0_3.length c0_3)] 32 (0, 0))) ∧ Aside0 (w'.heap[gbD]? = some (.cells #[.int .i64 0, .int .i64 0, .int .i64 0, (.slice none 0 0)] 32 (0, 0))) ∧ Aside0 (w'.heap[gbA]? = some (.cells #[.int .i64 a0_0, .int .i64 a0_1, .int .i64 (tF.length : Int), uE] 32 (0, 0))) ∧ Aside0 (Below w.heap.size w w'))
    case atStart => exact ⟨(0), (xE_1), (uE), p7, H', ⟨Nat.le_refl _⟩, ⟨pR HO_5.out⟩, ⟨pR HO_5.out⟩, ⟨by (with_reducible repeat (first | apply Kd.R_alloc | apply Kd.R_drewN | apply Kd.R_drew)); exact Kd.R_mono HO_E.out (fun _ hk => ⟨hk, hk⟩)⟩, ⟨pK BKB.out⟩, ⟨pK BKD.out⟩, ⟨pK BKA.out⟩, ⟨pB⟩⟩
    case round =>
     clear H'
     try clear c14
     try clear c14b0
     try clear hcz13_0
     try clear hcz13_1
     try clear hcz13_2
     try clear hcz13_3
     try clear hcz17_0
     try clear hcz17_1
     try clear hcz17_2
     try clear hcz17_3
     try clear hcz8_0
     try clear hcz8_1
     try clear hcz8_2
     try clear hcz8_3
     try clear hfz13_0
     try clear hfz13_1
     try clear hfz13_2
     try clear hfz13_3
     try clear hfz17_0
     try clear hfz17_1
     try clear hfz17_2
     try clear hfz17_3
     try clear hfz8_0
     try clear hfz8_1
     try clear hfz8_2
     try clear hfz8_3
     obtain ⟨x27_2, xE_2, uE, rfl, HA, HK2, HO_5, HO_25, HO_E, BKB, BKD, BKA, HB⟩ := hrel
     cases gk with
     | zero => exact absurd HA.out (by simp [impl_columnsOf.l1])
     | succ k2 =>
      have H := HA.out
      clear HA
      simp only [impl_columnsOf.l1] at H
      by_cases c18 : x27_2 < (tF.length : Int)
      ·rw [if_pos c18] at H
       have c18b0 : decide (x27_2 < (tF.length : Int)) = true := decide_eq_true c18
       clear c18
       by_cases c19 : 0 ≤ x27_2
       ·rw [if_pos c19] at H
        have c19b0 : decide (0 ≤ x27_2) = true := decide_eq_true c19
        clear c19
        by_cases c20 : x27_2 < (tF.length : Int)
        ·rw [if_pos c20] at H
         have c20b0 : decide (x27_2 < (tF.length : Int)) = true := decide_eq_true c20
         clear c20
         replace H := bS H
         obtain ⟨tL, A21, H⟩ := H
         by_cases c22 : xE_2.length < 17592186044416
         ·rw [if_pos c22] at H
          have LMc22 := Aside0.mk c22
          clear c22
          obtain ⟨yI, hyI⟩ : ∃ y_ : List Int, y_ = (xE_2 ++ [tL]) := ⟨_, rfl⟩
          replace H : (impl_columnsOf.l1 k2 tF x7_1 tF (tF.length : Int) (wrap64 (x27_2 + 1)) a0_0 a0_1 a0_2 l0_3 a0_0 a0_1 (tF.length : Int) yI) = some (r1, r2, r3, r4) := yR hyI H
          have NyI := Aside0.mk hyI
          clear hyI
          have H' := Aside0.mk H
          clear H
          have pG : 0 ≤ (x27_2 : Int) := oD
          have qG : x27_2 < (tF.length : Int) := oD
          obtain ⟨adG, eG, hxG_0⟩ := Kd.at_int (Kd.R_reads' HO_25.out).2.2 x27_2 pG qG
          cases eG
          replace pG := eq_true pG
          replace qG := eq_true qG
          try go_wp2
          replace HO_5 := Aside0.mk (Kd.R_drew HO_5.out)
          replace HO_25 := Aside0.mk (Kd.R_drew HO_25.out)
          replace HO_E := Aside0.mk (Kd.R_drew HO_E.out)
          replace BKB := Aside0.mk (blk_drew BKB.out)
          replace BKD := Aside0.mk (blk_drew BKD.out)
          replace BKA := Aside0.mk (blk_drew BKA.out)
          replace HB := Aside0.mk (below_drew1 HB.out)
          refine start_ (n := 10) (S := fun w' => w'.cell? ⟨gbA, 0, none⟩ = some (.int .i64 a0_0) ∧ w'.cell? ⟨gbA, 1, none⟩ = some (.int .i64 a0_1) ∧ w'.cell? ⟨gbA, 2, none⟩ = some (.int .i64 (tF.length : Int)) ∧ w'.cell? ⟨gbA, 3, none⟩ = some (uE) ∧ w'.cell? ⟨gbB, 0, none⟩ = some (.int .i64 a0_0) ∧ w'.cell? ⟨gbB, 1, none⟩ = some (.int .i64 a0_1) ∧ w'.cell? ⟨gbB, 2, none⟩ = some (.int .i64 a0_2) ∧ w'.cell? ⟨gbB, 3, none⟩ = some (.slice A0_3 l0_3.length c0_3)) (ds := [9]) #[false, false, false, false, false, false, false, false, false, false] kr rfl rfl ⟨(blk_cell BKA.out 0).trans rfl, (blk_cell BKA.out 1).trans rfl, (blk_cell BKA.out 2).trans rfl, (blk_cell BKA.out 3).trans rfl, (blk_cell BKB.out 0).trans rfl, (blk_cell BKB.out 1).trans rfl, (blk_cell BKB.out 2).trans rfl, (blk_cell BKB.out 3).trans rfl⟩ (fun hHeld => ?_); refine with_tabW impl_columnsOf.tab9 impl_columnsOf.bits9 (fun HT_ HW_ => ?_)
          generalize wr.drew = w23 at HO_5 HO_25 HO_E BKB BKD BKA HB hHeld ⊢
          refine pA 0 31 (any_of HT_.out kr) ?_
          refine pA 3 34 (any_of HT_.out kr) ?_
          refine pA 4 35 (any_of HT_.out kr) ?_
          refine tA8 1 32 (take_ofW HT_.out HW_.out kr) hHeld ?_
          refine tA8 2 33 (take_ofW HT_.out HW_.out kr) hHeld ?_
          refine one_ (i := 5) (N := some 36) #[true, true, true, true, true, true, false, false, false, false] rfl rfl (one_of HT_.out kr) (by decide) (fun K hK => ?_)
          refine goes_ Try.func85 kr rfl #[.agg #[.int .i64 a0_0, .int .i64 a0_1, .int .i64 a0_2, .slice A0_3 l0_3.length c0_3], .int .i64 x7_1, .int .i64 (rd tF x27_2)] (by rfl) rfl rfl p5 ?_
          with_reducible refine (impl_Matrix_at.calls a0_0 a0_1 a0_2 _ _ l0_3 x7_1 (rd tF x27_2) tL _ ?side1 ?side2 A21.out).mono ?_
          (case side1 => exact pC (Kd.C_below HR0_3.out HB.out))
          (case side2 => exact HC0_3.out)
          rintro e w24 ⟨rfl, hb⟩
          refine ⟨_, rfl, ?_⟩
          replace HO_5 := aR HO_5 hb
          replace HO_25 := aR HO_25 hb
          replace HO_E := aR HO_E hb
          replace BKB := aB BKB hb
          replace BKD := aB BKD hb
          replace BKA := aB BKA hb
          replace HB := aH hb
          (try clear hb)
          (try clear hb2)
          (try clear hk)
          (try clear hi)
          refine hK.out _ _ ⟨(blk_cell BKA.out 0).trans rfl, (blk_cell BKA.out 1).trans rfl, (blk_cell BKA.out 2).trans rfl, (blk_cell BKA.out 3).trans rfl, (blk_cell BKB.out 0).trans rfl, (blk_cell BKB.out 1).trans rfl, (blk_cell BKB.out 2).trans rfl, (blk_cell BKB.out 3).trans rfl⟩ (fun hHeld => ?_)
          clear hK K
          refine norm_ (a' := ?_) ?_ ?_
          rotate_left
          ·show Act.put _ (some 36) _ = _
           simp only [Act.put, List.setIfInBounds_toArray, List.set_cons_zero, List.set_cons_succ, i64_w, i32_w]
           rfl
          refine one_ (i := 6) (N := some 37) #[true, true, true, true, true, true, true, false, false, false] rfl rfl (one_of HT_.out kr) (by decide) (fun K hK => ?_)
          refine value_ (w1 := ?_) (v := ?_) (by rfl) rfl ?_ ?_
          rotate_left 2
          ·go_simp
           constructor
           ·rfl
           ·rfl
          refine hK.out _ _ ⟨(blk_cell (blk_alloc BKA.out _) 0).trans rfl, (blk_cell (blk_alloc BKA.out _) 1).trans rfl, (blk_cell (blk_alloc BKA.out _) 2).trans rfl, (blk_cell (blk_alloc BKA.out _) 3).trans rfl, (blk_cell (blk_alloc BKB.out _) 0).trans rfl, (blk_cell (blk_alloc BKB.out _) 1).trans rfl, (blk_cell (blk_alloc BKB.out _) 2).trans rfl, (blk_cell (blk_alloc BKB.out _) 3).trans rfl⟩ (fun hHeld => ?_)
          clear hK K
          refine norm_ (a' := ?_) ?_ ?_
          rotate_left
          ·show Act.put _ (some 37) _ = _
           simp only [Act.put, List.setIfInBounds_toArray, List.set_cons_zero, List.set_cons_succ, i64_w, i32_w]
           rfl
          refine one_ (i := 7) (N := some 38) #[true, true, true, true, true, true, true, true, false, false] rfl rfl (one_of HT_.out kr) (by decide) (fun K hK => ?_)
          refine Kd.R_append_step (Kd.int .i64) (w0 := w) w.heap.size (by rfl) (.tmp 32) (.tmp 37) 22 3 (.int .i64 0) 8 rfl Try.underlying22 info3 rfl (by decide) (by omega) uE xE_2 tL [.int .i64 tL] (fun k_ => some k_ ≠ (.slice (some adG) tF.length co9 : Value).ownBlock ∧ some k_ ≠ (.slice (some adG) tF.length co9 : Value).ownBlock) (fun _ => False) rfl rfl ?aP (fun _ hk => hk.elim) ?aF ?aO ?aB ?aS ?aL ?_
          (case aP => exact rfl)
          (case aB => exact pB)
          (case aF => exact (fun k_ hk => ⟨Kd.fresh' (Kd.R_lt (pR HO_5.out)) k_ hk, Kd.fresh' (Kd.R_lt (pR HO_25.out)) k_ hk⟩))
          (case aO => exact (pR HO_E.out))
          (case aS => exact (below_size pB))
          (case aL => have := LMc22.out; omega)
          intro vP w25 ho hb hg hat
          rw [← NyI.out] at ho
          have n0_ := Aside0.mk (Kd.R_after (ok := (fun _ => True)) (by (with_reducible repeat (first | apply Kd.R_alloc | apply Kd.R_drewN | apply Kd.R_drew)); exact Kd.R_mono HO_5.out (fun _ hk => ⟨trivial, hk⟩)) hg hat)
          have n1_ := Aside0.mk (Kd.R_after (ok := (fun _ => True)) (by (with_reducible repeat (first | apply Kd.R_alloc | apply Kd.R_drewN | apply Kd.R_drew)); exact Kd.R_mono HO_25.out (fun _ hk => ⟨trivial, hk⟩)) hg hat)
          have n2_ := Aside0.mk (blk_grown (g := gbB) (o := .cells #[.int .i64 a0_0, .int .i64 a0_1, .int .i64 a0_2, .slice A0_3 l0_3.length c0_3] 32 (0, 0)) (pK BKB.out) hg (Kd.R_ne HO_E.out BKB.out (by decide)))
          have n3_ := Aside0.mk (blk_grown (g := gbD) (o := .cells #[.int .i64 0, .int .i64 0, .int .i64 0, .slice none 0 0] 32 (0, 0)) (pK BKD.out) hg (Kd.R_ne HO_E.out BKD.out (by decide)))
          have n4_ := Aside0.mk (blk_grown (g := gbA) (o := .cells #[.int .i64 a0_0, .int .i64 a0_1, .int .i64 (tF.length : Int), uE] 32 (0, 0)) (pK BKA.out) hg (Kd.R_ne HO_E.out BKA.out (by decide)))
          have n5_ := Aside0.mk (hb)
          have n6_ := Aside0.mk (ho)
          clear HO_5
          clear HO_25
          clear BKB
          clear BKD
          clear BKA
          clear HB
          clear HO_E
          have HO_5 := n0_
          have HO_25 := n1_
          have BKB := n2_
          have BKD := n3_
          have BKA := n4_
          have HB := n5_
          have HOM := n6_
          clear n0_ n1_ n2_ n3_ n4_ n5_ n6_
          clear ho hb hg hat
          obtain ⟨Ao26, co26, eo26⟩ := Kd.R_slice HOM.out
          (first | subst eo26 | (injection eo26 with f1_ f2_ f3_; have f4_ := f1_.symm; have f5_ := f3_.symm; clear f1_ f2_ f3_; subst f4_; subst f5_))
          refine hK.out _ _ ⟨(blk_cell BKA.out 0).trans rfl, (blk_cell BKA.out 1).trans rfl, (blk_cell BKA.out 2).trans rfl, (blk_cell BKA.out 3).trans rfl, (blk_cell BKB.out 0).trans rfl, (blk_cell BKB.out 1).trans rfl, (blk_cell BKB.out 2).trans rfl, (blk_cell BKB.out 3).trans rfl⟩ (fun hHeld => ?_)
          clear hK K
          refine norm_ (a' := ?_) ?_ ?_
          rotate_left
          ·show Act.put _ (some 38) _ = _
           simp only [Act.put, List.setIfInBounds_toArray, List.set_cons_zero, List.set_cons_succ, i64_w, i32_w]
           rfl
          refine pA 8 39 (any_of HT_.out kr) ?_
          refine last_ (i := 9) (N := none) #[true, true, true, true, true, true, true, true, true, true] rfl rfl (one_of HT_.out kr) (by decide) (fun K hK => ?_)
          have hs27 : w25.cell? ⟨gbA, 3, none⟩ = some (uE) := (blk_cell BKA.out 3).trans rfl
          have hfs27 := blk_frozen BKA.out 3
          have hns27_0 := NBB_A.out
          have hns27_1 := NBD_A.out
          have hms27_0 := NBA_B.out
          have hms27_1 := NBA_D.out
          refine skip_ (w1 := ?_) (by rfl) rfl ?_ ?_
          rotate_left
          ·go_simp
           rfl
          refine hK.out _ _ ?_
          clear hK K
          refine done_ (done_of HT_.out kr) ?_
          try go_wp2
          go_roundg k2
          case measure => have := HK1.out; have := HK2.out; omega
          case rel => exact ⟨(wrap64 (x27_2 + 1)), (yI), (.slice Ao26 yI.length co26), p7, H', ⟨by have := HK1.out; have := HK2.out; omega⟩, ⟨by (with_reducible repeat (first | apply Kd.R_alloc | apply Kd.R_drewN | apply Kd.R_drew)); exact Kd.R_mono (Kd.R_far (p := ⟨gbA, 3, none⟩) (Kd.R_types HO_5.out BKA.out (by decide)) (fun _ hk => hk.2) (.slice Ao26 yI.length co26)) (fun _ hk => hk.1.2)⟩, ⟨by (with_reducible repeat (first | apply Kd.R_alloc | apply Kd.R_drewN | apply Kd.R_drew)); exact Kd.R_mono (Kd.R_far (p := ⟨gbA, 3, none⟩) (Kd.R_types HO_25.out BKA.out (by decide)) (fun _ hk => hk.2) (.slice Ao26 yI.length co26)) (fun _ hk => hk.1.2)⟩, ⟨by (with_reducible repeat (first | apply Kd.R_alloc | apply Kd.R_drewN | apply Kd.R_drew)); exact Kd.R_mono (Kd.R_far (p := ⟨gbA, 3, none⟩) (Kd.R_types HOM.out BKA.out (by decide)) (fun _ hk => hk.2) (.slice Ao26 yI.length co26)) (fun _ hk => ⟨hk.1.1, hk.1.2⟩)⟩, ⟨qK BKB.out⟩, ⟨qK BKD.out⟩, ⟨by (with_reducible repeat (first | refine blk_drewN ?_ _ | refine blk_drew ?_ | refine blk_alloc ?_ _)); refine blk_put (cs := #[.int .i64 a0_0, .int .i64 a0_1, .int .i64 (tF.length : Int), uE]) ?_ 3 _ rfl; (with_reducible repeat (first | refine blk_drewN ?_ _ | refine blk_drew ?_ | refine blk_alloc ?_ _)); exact BKA.out⟩, ⟨pB⟩⟩
         ·rw [if_neg c22] at H
          exact absurd H (by simp)
        ·rw [if_neg c20] at H
         exact absurd H (by simp)
       ·rw [if_neg c19] at H
        exact absurd H (by simp)
      ·rw [if_neg c18] at H
       have c18b0 : decide (x27_2 < (tF.length : Int)) = false := decide_eq_false c18
       clear c18
       have H' := Aside0.mk H
       clear H
       go_wp2
       go_roundg k2
       case measure => have := HK1.out; have := HK2.out; omega
       case rel => exact ⟨(wrap64 (x7_1 + 1)), (xE_2), (uE), p7, H', ⟨by have := HK1.out; have := HK2.out; omega⟩, ⟨pR HO_5.out⟩, ⟨by (with_reducible repeat (first | apply Kd.R_alloc | apply Kd.R_drewN | apply Kd.R_drew)); exact Kd.R_mono HO_E.out (fun _ hk => hk.1)⟩, ⟨pK BKB.out⟩, ⟨pK BKD.out⟩, ⟨pK BKA.out⟩, ⟨pB⟩⟩
   ·rw [if_neg c14] at H
    have c14b0 : decide (x7_1 < a0_1) = false := decide_eq_false c14
    clear c14
    simp only [Option.some.injEq, Prod.mk.injEq] at H
    obtain ⟨rfl, rfl, rfl, rfl⟩ := H
    have hnb28 := NBB_D.out
    have hnc28 := NBD_B.out
    have hnb29 := NBB_A.out
    have hnc29 := NBA_B.out
    obtain ⟨hcz30_0, hcz30_1, hcz30_2, hcz30_3, hfz30_0, hfz30_1, hfz30_2, hfz30_3⟩ := bc4 BKB.out
    have hnb31 := NBA_D.out
    have hnc31 := NBD_A.out
    obtain ⟨hcz32_0, hcz32_1, hcz32_2, hcz32_3, hfz32_0, hfz32_1, hfz32_2, hfz32_3⟩ := bc4 BKA.out
    obtain ⟨hcz33_0, hcz33_1, hcz33_2, hcz33_3, hfz33_0, hfz33_1, hfz33_2, hfz33_3⟩ := bc4 BKD.out
    obtain ⟨Ao34, co34, eo34⟩ := Kd.R_slice HO_E.out
    subst eo34
    go_wp2
    refine bodyPost_ret (results_cell_row rfl _ _ gbD 32 #[.int .i64 a0_0, .int .i64 a0_1, .int .i64 (tF.length : Int), .slice Ao34 xE_1.length co34] (0, 0) _ rfl (by (with_reducible repeat (first | refine blk_drewN ?_ _ | refine blk_drew ?_ | refine blk_alloc ?_ _)); refine blk_put (cs := #[.int .i64 a0_0, .int .i64 a0_1, .int .i64 (tF.length : Int), .slice none 0 0]) ?_ 3 _ rfl; (with_reducible repeat (first | refine blk_drewN ?_ _ | refine blk_drew ?_ | refine blk_alloc ?_ _)); refine blk_put (cs := #[.int .i64 a0_0, .int .i64 a0_1, .int .i64 0, .slice none 0 0]) ?_ 2 _ rfl; (with_reducible repeat (first | refine blk_drewN ?_ _ | refine blk_drew ?_ | refine blk_alloc ?_ _)); refine blk_put (cs := #[.int .i64 a0_0, .int .i64 0, .int .i64 0, .slice none 0 0]) ?_ 1 _ rfl; (with_reducible repeat (first | refine blk_drewN ?_ _ | refine blk_drew ?_ | refine blk_alloc ?_ _)); refine blk_put (cs := #[.int .i64 0, .int .i64 0, .int .i64 0, .slice none 0 0]) ?_ 0 _ rfl; exact pK BKD.out) Try.underlying32 rfl kr) rfl ?_
    exact ⟨_, p8, by (with_reducible repeat (first | apply Kd.R_alloc | apply Kd.R_drewN | apply Kd.R_drew)); exact Kd.R_mono (Kd.R_far (p := ⟨gbD, 3, none⟩) (Kd.R_far (p := ⟨gbD, 2, none⟩) (Kd.R_far (p := ⟨gbD, 1, none⟩) (Kd.R_far (p := ⟨gbD, 0, none⟩) (Kd.R_types HO_E.out BKD.out (by decide)) (fun _ hk => hk.2) (.int .i64 a0_0)) (fun _ hk => hk.2) (.int .i64 a0_1)) (fun _ hk => hk.2) (.int .i64 (tF.length : Int))) (fun _ hk => hk.2) (.slice Ao34 xE_1.length co34)) (fun _ hk => trivial), pB⟩
mutual
def impl_InverseIn.j0 : Nat → Int → Int → Bool → Option (Int)
 | 0, _, _, _ => none
 | k + 1, x0, x1, x17 => if x17 = true then (some 0) else (impl_InverseIn.l0 k x0 x1 1)
def impl_InverseIn.l0 : Nat → Int → Int → Int → Option (Int)
 | 0, _, _, _ => none
 | k + 1, x0, x1, x5 => if x0 = 0 then (none) else (if (Int.tmod (wrap64 (x1 * x5)) x0) = 1 then (some x5) else (impl_InverseIn.l0 k x0 x1 (wrap64 (x5 + 1))))
end
def impl_InverseIn.f (k : Nat) (a0 : Int) (a1 : Int) : Option (Int) := (impl_isField.f a0).bind fun tA => (if tA = true then (if a1 < 1 then (impl_InverseIn.j0 k a0 a1 true) else (impl_InverseIn.j0 k a0 a1 (decide (a1 ≥ a0)))) else (impl_InverseIn.j0 k a0 a1 true))
theorem impl_InverseIn.mono_l : ∀ k, (∀ y0 y1 y2, LeO (impl_InverseIn.j0 k y0 y1 y2) (impl_InverseIn.j0 (k + 1) y0 y1 y2)) ∧ (∀ y0 y1 y2, LeO (impl_InverseIn.l0 k y0 y1 y2) (impl_InverseIn.l0 (k + 1) y0 y1 y2))
 | 0 => ⟨fun _ _ _ r h => by simp [impl_InverseIn.j0] at h, fun _ _ _ r h => by simp [impl_InverseIn.l0] at h⟩
 | k + 1 => by
  obtain ⟨ih0, ih1⟩ := impl_InverseIn.mono_l k
  refine ⟨?_, ?_⟩
  ·intro y0 y1 y2
   unfold impl_InverseIn.j0
   repeat' first
   | (with_reducible exact ih0 _ _ _)
   | (with_reducible exact ih1 _ _ _)
   | (with_reducible exact LeO.refl _)
   | (with_reducible exact LeO.none _)
   | (with_reducible refine LeO.ite ?_ ?_)
   | (with_reducible refine LeO.bind ?_ (fun _ => ?_))
   | exact ih0 _ _ _
   | exact ih1 _ _ _
   | exact LeO.none _
   | refine LeO.ite ?_ ?_
   | refine LeO.bind ?_ (fun _ => ?_)
  ·intro y0 y1 y2
   unfold impl_InverseIn.l0
   repeat' first
   | (with_reducible exact ih0 _ _ _)
   | (with_reducible exact ih1 _ _ _)
   | (with_reducible exact LeO.refl _)
   | (with_reducible exact LeO.none _)
   | (with_reducible refine LeO.ite ?_ ?_)
   | (with_reducible refine LeO.bind ?_ (fun _ => ?_))
   | exact ih0 _ _ _
   | exact ih1 _ _ _
   | exact LeO.none _
   | refine LeO.ite ?_ ?_
   | refine LeO.bind ?_ (fun _ => ?_)
theorem impl_InverseIn.mono : ∀ a0 a1 k, LeO (impl_InverseIn.f k a0 a1) (impl_InverseIn.f (k + 1) a0 a1) := by
 intro a0 a1 k
 obtain ⟨ih0, ih1⟩ := impl_InverseIn.mono_l k
 unfold impl_InverseIn.f
 repeat' first
   | (with_reducible exact ih0 _ _ _)
   | (with_reducible exact ih1 _ _ _)
   | (with_reducible exact LeO.refl _)
   | (with_reducible exact LeO.none _)
   | (with_reducible refine LeO.ite ?_ ?_)
   | (with_reducible refine LeO.bind ?_ (fun _ => ?_))
   | exact ih0 _ _ _
   | exact ih1 _ _ _
   | exact LeO.none _
   | refine LeO.ite ?_ ?_
   | refine LeO.bind ?_ (fun _ => ?_)
set_option maxHeartbeats 8000000 in
set_option maxRecDepth 100000 in
theorem impl_InverseIn.calls (k : Nat) (a0 : Int) (a1 : Int) (r : Int) (w : World) (h : impl_InverseIn.f k a0 a1 = some r) :
  Calls Try.prog 84 #[.int .i64 a0, .int .i64 a1] w fun e w' => e = .returned (.int .i64 r) ∧ Drawn0 w w' := by
 have H : ((impl_isField.f a0).bind fun tA => (if tA = true then (if a1 < 1 then (impl_InverseIn.j0 k a0 a1 true) else (impl_InverseIn.j0 k a0 a1 (decide (a1 ≥ a0)))) else (impl_InverseIn.j0 k a0 a1 true))) = some r := h
 clear h
 have HC3 := Aside0.mk H
 clear H
 go_enter Try.func84, Try.ntmps84
 go_upto_region 1 with (fail)
 go_cut [17] (fun v17 wc => ∃ (kq : Nat) (x17_2 : Bool), v17 = .bool x17_2 ∧ Aside0 (impl_InverseIn.j0 kq a0 a1 x17_2 = some r) ∧ Aside0 (kq ≤ k) ∧ Drawn0 w wc)
 case first =>
  have H := HC3.out
  clear HC3
  replace H := bS H
  obtain ⟨tA, A4, H⟩ := H
  by_cases c5 : tA = true
  ·subst c5
   replace H := iP H
   by_cases c6 : a1 < 1
   ·rw [if_pos c6] at H
    have c6b0 : decide (a1 < 1) = true := decide_eq_true c6
    clear c6
    (first | rw [c6b0] | (simp only [i64_w, i32_w]; rw [c6b0]) | skip)
    have H' := Aside0.mk H
    clear H
    go_wp2_with (first | ((with_reducible refine gate_callee (f := 74) rfl ?_); refine goesL_ (some 7) rfl rfl Try.func74 kr rfl #[.int .i64 a0] rfl p5 ?_; (with_reducible refine (impl_isField.calls a0 true _ A4.out).mono ?_); rintro e w' ⟨rfl, ⟨nd, rfl⟩⟩; refine ⟨_, rfl, ?_⟩))
    go_meet
    case rel => exact ⟨_, (true), p7, H', ⟨by first | omega | exact Nat.le_refl _⟩, by repeat (first | exact Drawn0.refl _ | apply Drawn0.step)⟩
   ·rw [if_neg c6] at H
    have c6b0 : decide (a1 < 1) = false := decide_eq_false c6
    clear c6
    (first | rw [c6b0] | (simp only [i64_w, i32_w]; rw [c6b0]) | skip)
    have H' := Aside0.mk H
    clear H
    go_wp2_with (first | ((with_reducible refine gate_callee (f := 74) rfl ?_); refine goesL_ (some 7) rfl rfl Try.func74 kr rfl #[.int .i64 a0] rfl p5 ?_; (with_reducible refine (impl_isField.calls a0 true _ A4.out).mono ?_); rintro e w' ⟨rfl, ⟨nd, rfl⟩⟩; refine ⟨_, rfl, ?_⟩))
    go_meet
    case rel => exact ⟨_, (decide (a1 ≥ a0)), p7, H', ⟨by first | omega | exact Nat.le_refl _⟩, by repeat (first | exact Drawn0.refl _ | apply Drawn0.step)⟩
  ·replace c5 := Bool.eq_false_iff.mpr c5
   subst c5
   replace H := iN H
   have H' := Aside0.mk H
   clear H
   go_wp2_with (first | ((with_reducible refine gate_callee (f := 74) rfl ?_); refine goesL_ (some 7) rfl rfl Try.func74 kr rfl #[.int .i64 a0] rfl p5 ?_; (with_reducible refine (impl_isField.calls a0 false _ A4.out).mono ?_); rintro e w' ⟨rfl, ⟨nd, rfl⟩⟩; refine ⟨_, rfl, ?_⟩))
   go_meet
   case rel => exact ⟨_, (true), p7, H', ⟨by first | omega | exact Nat.le_refl _⟩, by repeat (first | exact Drawn0.refl _ | apply Drawn0.step)⟩
 case rest =>
  clear HC3
  obtain ⟨kq, x17_2, rfl, HA, HJ2, ⟨mc2, rfl⟩⟩ := hcut
  cases kq with
  | zero => exact absurd HA.out (by simp [impl_InverseIn.j0])
  | succ kj2 =>
   have H := HA.out
   clear HA
   simp only [impl_InverseIn.j0] at H
   by_cases c7 : x17_2 = true
   ·subst c7
    replace H := iP H
    obtain rfl := Option.some.inj H
    go_wp2
    go_ret
    exact ⟨p7, by repeat (first | exact Drawn0.refl _ | apply Drawn0.step)⟩
   ·replace c7 := Bool.eq_false_iff.mpr c7
    subst c7
    replace H := iN H
    have H' := Aside0.mk H
    clear H
    go_wp2
    go_loopg [5] kj2 (fun kq v5 w' => ∃ (x5_2 : Int), v5 = .int .i64 x5_2 ∧ Aside0 (impl_InverseIn.l0 kq a0 a1 x5_2 = some r) ∧ Aside0 (kq ≤ kj2) ∧ Drawn0 w w')
    case atStart => exact ⟨(1), p7, H', ⟨Nat.le_refl _⟩, by repeat (first | exact Drawn0.refl _ | apply Drawn0.step)⟩
    case round =>
     clear H'
     try clear c7
     obtain ⟨x5_2, rfl, HA, HK2, ⟨m2, rfl⟩⟩ := hrel
     cases gk with
     | zero => exact absurd HA.out (by simp [impl_InverseIn.l0])
     | succ k2 =>
      have H := HA.out
      clear HA
      simp only [impl_InverseIn.l0] at H
      by_cases c8 : a0 = 0
      ·rw [if_pos c8] at H
       exact absurd H (by simp)
      ·rw [if_neg c8] at H
       have c8b0 : (a0 == 0) = false := beq_eq_false_iff_ne.mpr c8
       have c8b1 : (a0 != 0) = true := bne_iff_ne.mpr c8
       by_cases c9 : (Int.tmod (wrap64 (a1 * x5_2)) a0) = 1
       ·rw [if_pos c9] at H
        have c9b0 : ((Int.tmod (wrap64 (a1 * x5_2)) a0) == 1) = true := beq_iff_eq.mpr c9
        have c9b1 : ((Int.tmod (wrap64 (a1 * x5_2)) a0) != 1) = false := bne_eq_false_iff_eq.mpr c9
        clear c9
        obtain rfl := Option.some.inj H
        go_wp2
        go_ret
        exact ⟨p7, by repeat (first | exact Drawn0.refl _ | apply Drawn0.step)⟩
       ·rw [if_neg c9] at H
        have c9b0 : ((Int.tmod (wrap64 (a1 * x5_2)) a0) == 1) = false := beq_eq_false_iff_ne.mpr c9
        have c9b1 : ((Int.tmod (wrap64 (a1 * x5_2)) a0) != 1) = true := bne_iff_ne.mpr c9
        have H' := Aside0.mk H
        clear H
        go_wp2
        go_roundg k2
        case measure => have := HJ2.out; have := HK2.out; omega
        case rel => exact ⟨(wrap64 (x5_2 + 1)), p7, H', ⟨by have := HJ2.out; have := HK2.out; omega⟩, by repeat (first | exact Drawn0.refl _ | apply Drawn0.step)⟩
end Go.Proofs.Ytbhckhblonkajaa.Q
namespace Go.Proofs.Ytbhckhblonkajaa.Q
open Go.RowKit Go.Proofs.YtbhckhblonkajaaW.PrintWords Go.Proofs.YtbhckhblonkajaaW.PrintLast
def swapList {α : Type} (xs : List α) (i j : Nat) (z : α) : List α := (xs.set i (xs.getD j z)).set j (xs.getD i z)
theorem swapList_length {α : Type} (xs : List α) (i j : Nat) (z : α) : (swapList xs i j z).length = xs.length := by simp [swapList]
theorem swapList_get {α : Type} (xs : List α) (i j : Nat) (z : α) (hi : i < xs.length) (hj : j < xs.length) (k : Nat) :
    (swapList xs i j z)[k]? = xs[if k = i then j else if k = j then i else k]? := by
  simp only [swapList, List.getElem?_set, List.length_set, List.getD_eq_getElem?_getD]
  by_cases hkj : j = k
  · subst hkj
    simp [hj]
    by_cases hij : j = i
    · subst hij; simp [List.getElem?_eq_getElem hj]
    · simp [hij, List.getElem?_eq_getElem hi]
  · by_cases hki : i = k
    · subst hki
      simp [hkj, hi, List.getElem?_eq_getElem hj]
    · have h1 : ¬ k = i := fun h => hki h.symm
      have h2 : ¬ k = j := fun h => hkj h.symm
      simp [hkj, hki, h1, h2]
def swapRows.f (l : List (List Int)) (i j : Int) : Option (List (List Int)) :=
  if 0 ≤ i ∧ i < (l.length : Int) ∧ 0 ≤ j ∧ j < (l.length : Int) then some (swapList l i.toNat j.toNat []) else none
theorem swapRows.some_ {l r : List (List Int)} {i j : Int} (h : swapRows.f l i j = some r) :
    0 ≤ i ∧ i < (l.length : Int) ∧ 0 ≤ j ∧ j < (l.length : Int) ∧ r = swapList l i.toNat j.toNat [] ∧ l.length = r.length := by
  unfold swapRows.f at h
  split at h
  · rename_i c
    have hr := Option.some.inj h
    subst hr
    exact ⟨c.1, c.2.1, c.2.2.1, c.2.2.2, rfl, (swapList_length _ _ _ _).symm⟩
  · cases h
theorem S_swap {α : Type} {d : Kd α} {e : Nat} {w : World} {base : Nat} {ok : Nat → Prop} {g n cap : Nat} {xs : List α} (hsz : d.sz = 1)
    (h : Kd.S d e w base ok (.slice (some ⟨g, 0, none⟩) n cap) xs) (z : α) (i j : Nat) (hi : i < xs.length) (hj : j < xs.length) :
    ∃ ci cj : Value, w.cell? ⟨g, i, none⟩ = some ci ∧ w.cell? ⟨g, j, none⟩ = some cj ∧ w.frozen? ⟨g, i, none⟩ = false ∧ w.frozen? ⟨g, j, none⟩ = false ∧ d.K w (xs.getD i z) [ci] ∧ d.K w (xs.getD j z) [cj] ∧
      Kd.S d e ((w.setCell ⟨g, i, none⟩ cj).setCell ⟨g, j, none⟩ ci) base ok (.slice (some ⟨g, 0, none⟩) n cap) (swapList xs i j z) ∧
      w.grownBy ((w.setCell ⟨g, i, none⟩ cj).setCell ⟨g, j, none⟩ ci) (some g) := by
  obtain ⟨f, h0, inner, ho, hr⟩ := h
  have hgo : (Value.slice (some ⟨g, 0, none⟩) n cap).ownBlock = some g := rfl
  have hts : (Kd.tag f d).sz = 1 := hsz
  rw [hts] at ho hr
  rw [List.length_zipIdx] at ho
  have hn : n = xs.length := by
    rcases ho.2 with ⟨h', _⟩ | ⟨g', cap', cur, h', _⟩
    · cases h'
    · injection h'
  subst hn
  have hil : inner.length = xs.length := by have := ho.1; omega
  have hci : inner[i]? = some (inner[i]'(by omega)) := List.getElem?_eq_getElem (by omega)
  have hcj : inner[j]? = some (inner[j]'(by omega)) := List.getElem?_eq_getElem (by omega)
  generalize inner[i]'(by omega) = ci at hci
  generalize inner[j]'(by omega) = cj at hcj
  have hcell : ∀ k u, inner[k]? = some u → w.cell? ⟨g, k, none⟩ = some u := fun k u hu => by
    have := ho.cells (g := g) rfl k u hu
    rwa [add_plain] at this
  have hfz : ∀ k, w.frozen? ⟨g, k, none⟩ = false := fun k => by
    rcases ho.2 with ⟨h', _⟩ | ⟨g', cap', cur, h', _, hh, _⟩
    · cases h'
    · have : g = g' := by injection h' with h'; injection h' with h'; injection h' with h'
      subst this
      exact blk_frozen hh k
  obtain ⟨o1, g1⟩ := ho.stored i cj
  obtain ⟨o2, g2⟩ := o1.stored j ci
  have hg : w.grownBy ((w.setCell ⟨g, i, none⟩ cj).setCell ⟨g, j, none⟩ ci) (some g) := World.grownBy.trans g1 g2
  have take1 : ∀ (l : List Value) (m : Nat), m < l.length → (l.drop m).take 1 = [l.getD m default] := fun l m hm => by
    rw [List.drop_eq_getElem_cons hm, List.take_succ_cons, List.take_zero, List.getD_eq_getElem?_getD, List.getElem?_eq_getElem hm]; rfl
  have hKK : ∀ (k : Nat) (c : Value), k < xs.length → inner[k]? = some c → d.K w (xs.getD k z) [c] := fun k c hk hc => by
    have hM := hr.2 k _ (Kd.zip_at (List.getElem?_eq_getElem hk))
    rw [Nat.mul_one, take1 _ _ (by omega), List.getD_eq_getElem?_getD, hc] at hM
    rw [List.getD_eq_getElem?_getD, List.getElem?_eq_getElem hk]
    exact d.K_of_M hM
  refine ⟨ci, cj, hcell i ci hci, hcell j cj hcj, hfz i, hfz j, hKK i ci hi hci, hKK j cj hj hcj, ⟨fun k => if f k = i then j else if f k = j then i else f k, ?_, (inner.set i cj).set j ci, ?_, ?_⟩, hg⟩
  · exact h0
  · rw [List.length_zipIdx, swapList_length]
    show World.ownsRow _ _ _ d.sz _ _ _
    rw [hsz]
    exact o2
  · show Reps _ d.sz _ _
    rw [hsz]
    refine ⟨by simp [swapList_length, hil], fun k p hk => ?_⟩
    obtain ⟨x, q⟩ := p
    rw [List.getElem?_zipIdx] at hk
    obtain ⟨x', hx', hxe⟩ := Option.map_eq_some_iff.1 hk
    simp only [Nat.zero_add, Prod.mk.injEq] at hxe
    obtain ⟨rfl, rfl⟩ := hxe
    rw [swapList_get xs i j z hi hj] at hx'
    have hM := hr.2 _ _ (Kd.zip_at hx')
    simp only [Nat.mul_one] at hM ⊢
    have hinn : ((inner.set i cj).set j ci)[k]? = inner[if k = i then j else if k = j then i else k]? := by
      rw [List.getElem?_set, List.getElem?_set]
      by_cases hkj : j = k
      · subst hkj
        by_cases hij : j = i
        · subst hij
          have : ci = cj := by rw [hci] at hcj; exact Option.some.inj hcj
          rw [if_pos rfl, if_pos (by simp [hil, hj]), if_pos rfl]; exact hci.symm
        · simp [hil, hj, hij, hci]
      · by_cases hki : i = k
        · subst hki
          simp [hkj, hil, hi, hcj]
        · have h1 : ¬ k = i := fun h => hki h.symm
          have h2 : ¬ k = j := fun h => hkj h.symm
          simp [hkj, hki, h1, h2]
    have hkl : (if k = i then j else if k = j then i else k) < xs.length := (List.getElem?_eq_some_iff.1 hx').1
    have hkl' : k < xs.length := by
      by_cases h1 : k = i
      · omega
      · by_cases h2 : k = j
        · omega
        · simpa [h1, h2] using hkl
    have take1 : ∀ (l : List Value) (m : Nat), m < l.length → (l.drop m).take 1 = [l.getD m default] := fun l m hm => by
      rw [List.drop_eq_getElem_cons hm, List.take_succ_cons, List.take_zero, List.getD_eq_getElem?_getD, List.getElem?_eq_getElem hm]; rfl
    have he : (((inner.set i cj).set j ci).drop k).take 1 = (inner.drop (if k = i then j else if k = j then i else k)).take 1 := by
      rw [take1 _ _ (by simp only [List.length_set]; omega), take1 _ _ (by rw [hil]; exact hkl), List.getD_eq_getElem?_getD, List.getD_eq_getElem?_getD, hinn]
    rw [he]
    have hM2 : d.M ((w.setCell ⟨g, i, none⟩ cj).setCell ⟨g, j, none⟩ ci) base (fun k' => (ok k' ∧ some k' ≠ some g) ∧ f k' = (if k = i then j else if k = j then i else k)) x' ((inner.drop (if k = i then j else if k = j then i else k)).take 1) := by
      refine d.M_move (fun k' hk' => ?_) hM
      rw [Below.heap_setCell _ _ _ _ (fun e => hk'.1.2 (by rw [e])), Below.heap_setCell _ _ _ _ (fun e => hk'.1.2 (by rw [e]))]
    refine d.M_mono (fun k' hk' => ⟨hk'.1, ?_⟩) hM2
    have hf := hk'.2
    show (if f k' = i then j else if f k' = j then i else f k') = k
    rw [hf]
    by_cases h1 : k = i
    · subst h1
      by_cases h2 : j = k
      · simp [h2]
      · simp [h2]
    · by_cases h2 : k = j
      · subst h2; simp [h1]
      · simp [h1, h2]
end Go.Proofs.Ytbhckhblonkajaa.Q
