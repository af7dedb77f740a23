/- Part of a proof: contracts and lemmas that the row's text uses; joined by a program. -/
import Derived.Test.YtbhckhblonkajaaH04
import Derived.Test.YtbhckhblonkajaaH05
import Derived.Test.YtbhckhblonkajaaH11
set_option linter.unusedVariables false
set_option linter.unusedSimpArgs false
namespace Go.Proofs.Ytbhckhblonkajaa.Q
open Go.RowKit Go.Proofs.YtbhckhblonkajaaW.PrintWords Go.Proofs.YtbhckhblonkajaaW.PrintLast Go.Proofs.YtbhckhblonkajaaW.PrintMore
attribute [local go_sem] max2_int min2_int max_two min_two max_three min_three max_four min_four
mutual
def impl_fillCells.l0 : Nat → List Int → Int → Int → List Int → Int → Int → Int → List Int → Option (Bool × List Int)
 | 0, _, _, _, _, _, _, _, _ => none
 | k + 1, x2, x7, xD, xE, xA, xF, xG, xB => if x7 < xA then (if 0 < (x2.length : Int) then (if 0 ≤ (rd x2 0) then (if (rd x2 0) < (xB.length : Int) then (if 1 ≤ (x2.length : Int) then ((impl_fillCells.f k xD xE xA xF xG (xB.set ((rd x2 0) : Int).toNat x7) (x2.drop 1)).bind fun btC => (if btC.1 = true then (some (true, btC.2)) else (impl_fillCells.l0 k x2 (wrap64 (x7 + 1)) xD xE xA xF xG btC.2))) else (none)) else (none)) else (none)) else (none)) else (some (false, xB))
def impl_fillCells.f : Nat → Int → List Int → Int → Int → Int → List Int → List Int → Option (Bool × List Int)
 | 0, _, _, _, _, _, _, _ => none
 | k + 1, a0_0, l0_1, a1_0, a1_1, a1_2, l1_3, l2 => if (l2.length : Int) = 0 then ((impl_FromMatrix.f k a1_0 a1_1 a1_2 l1_3).bind fun btI => ((impl_EqualMatroid.f k btI.1 btI.2 a0_0 l0_1).bind fun tJ => (some (tJ, l1_3)))) else (impl_fillCells.l0 k l2 1 a0_0 l0_1 a1_0 a1_1 a1_2 l1_3)
end
def impl_fillCells.T6 : Bool × List (List Nat × List Nat) := (true, [([], []), ([0], [0]), ([], []), ([2], [2]), ([3], [3]), ([], []), ([1, 4, 0, 1, 2, 3, 4, 5], [1, 4]), ([6, 5, 0, 1, 2, 3, 4, 5], [5, 6])])
def impl_fillCells.B6 : List Nat := [0, 1, 0, 4, 12, 0, 63, 127]
theorem impl_fillCells.tab6 : rtab .any (opsOf Try.f34 6) = impl_fillCells.T6 := by kernel_rfl
theorem impl_fillCells.bits6 : waitsOk impl_fillCells.T6.2 impl_fillCells.B6 = true := by kernel_rfl
set_option maxHeartbeats 8000000 in
set_option maxRecDepth 100000 in
theorem impl_fillCells.calls (k : Nat) : ∀ (a0_0 : Int) (A0_1 : Option Addr) (c0_1 : Nat) (l0_1 : List Int) (a1_0 : Int) (a1_1 : Int) (a1_2 : Int) (P1_3_ : Nat → Prop) (u9000_ : Value) (l1_3 : List Int) (A2 : Option Addr) (c2 : Nat) (l2 : List Int) (r1 : Bool) (r2 : List Int) (w0 w : World) (hB : Below w0.heap.size w0 w) (hr0_1 : ∀ W_, Kept w W_ (fun k_ => P1_3_ k_) → Kd.C (Kd.int .i64) W_ A0_1 l0_1.length l0_1) (hc0_1 : l0_1.length ≤ c0_1) (ho1_3 : Kd.R (Kd.int .i64) 3 w w0.heap.size P1_3_ u9000_ l1_3) (hr2 : ∀ W_, Kept w W_ (fun k_ => P1_3_ k_) → Kd.C (Kd.int .i64) W_ A2 l2.length l2) (hc2 : l2.length ≤ c2) (h : impl_fillCells.f k a0_0 l0_1 a1_0 a1_1 a1_2 l1_3 l2 = some (r1, r2)),
  Calls Try.prog 34 #[.agg #[.int .i64 a0_0, .slice A0_1 l0_1.length c0_1], .agg #[.int .i64 a1_0, .int .i64 a1_1, .int .i64 a1_2, u9000_], .slice A2 l2.length c2] w fun e w' => e = .returned (.bool r1) ∧ Kd.R (Kd.int .i64) 3 w' w0.heap.size (fun k_ => (P1_3_ k_ ∨ w.heap.size ≤ k_)) u9000_ r2 ∧ Below w0.heap.size w0 w' ∧ Kept w w' (fun k_ => P1_3_ k_) := by
 induction k using Nat.strongRecOn with
 | _ k ih =>
 intro a0_0 A0_1 c0_1 l0_1 a1_0 a1_1 a1_2 P1_3_ u9000_ l1_3 A2 c2 l2 r1 r2 w0 w hB hr0_1 hc0_1 ho1_3 hr2 hc2 h
 cases k with
 | zero => exact absurd h (by simp [impl_fillCells.f])
 | succ k =>
 simp only [impl_fillCells.f] at h
 have hu27 := Try.underlying27
 have hu32 := Try.underlying32
 have HR0_1 := Aside0.mk hr0_1
 have HC0_1 := Aside0.mk hc0_1
 clear hr0_1 hc0_1
 have HO1_3 := Aside0.mk (show Kd.R (Kd.int .i64) 3 w w0.heap.size (fun k_ => (P1_3_ k_ ∨ w.heap.size ≤ k_)) u9000_ l1_3 from Kd.R_mono ho1_3 (fun k_ hk => (.inl hk)))
 have HR2 := Aside0.mk hr2
 have HC2 := Aside0.mk hc2
 clear hr2 hc2
 have HK := Aside0.mk (Kept.refl w (fun k_ => P1_3_ k_))
 have HW0 := Aside0.mk hB.size
 have HB := Aside0.mk hB
 clear hB
 have H : (if (l2.length : Int) = 0 then ((impl_FromMatrix.f k a1_0 a1_1 a1_2 l1_3).bind fun btJ => ((impl_EqualMatroid.f k btJ.1 btJ.2 a0_0 l0_1).bind fun tO => (some (tO, l1_3)))) else (impl_fillCells.l0 k l2 1 a0_0 l0_1 a1_0 a1_1 a1_2 l1_3)) = some (r1, r2) := h
 clear h
 by_cases c4 : (l2.length : Int) = 0
 ·rw [if_pos c4] at H
  have c4b0 : ((l2.length : Int) == 0) = true := beq_iff_eq.mpr c4
  have c4b1 : ((l2.length : Int) != 0) = false := bne_eq_false_iff_eq.mpr c4
  clear c4
  replace H := Option.bind_eq_some_iff.mp H
  obtain ⟨⟨tJ, tU⟩, A50, H⟩ := H
  replace H : ((impl_EqualMatroid.f k tJ tU a0_0 l0_1).bind fun tO => (some (tO, l1_3))) = some (r1, r2) := H
  have A5 := Aside0.mk A50
  clear A50
  replace H := bS H
  obtain ⟨tO, A6, H⟩ := H
  simp only [Option.some.injEq, Prod.mk.injEq] at H
  obtain ⟨rfl, rfl⟩ := H
  go_enter Try.func34, Try.ntmps34
  try go_wp2_with (first | (refine bE 3 #[.int .i64 a0_0, .slice A0_1 l0_1.length c0_1] 27 ?_; intro gbB hg w7 hbox hb; replace HO1_3 := aR HO1_3 hb; have BKB := Aside0.mk hbox; have GWB := Aside0.mk ((by rw [hg]; exact (by first | exact HK.out.1 | exact (show Kept w _ (fun k_ => P1_3_ k_) from pH).1) : w.heap.size ≤ gbB)); replace HK := Aside0.mk (Kept.below (S := (fun k_ => P1_3_ k_)) pH hb); have GEB := aZ w0 hg; replace HB := aH hb; clear hb hbox hg; obtain ⟨Ao8, co8, eo8⟩ := Kd.R_slice HO1_3.out; subst eo8) | (refine bE 4 #[.int .i64 a1_0, .int .i64 a1_1, .int .i64 a1_2, .slice Ao8 l1_3.length co8] 32 ?_; intro gbA hg w9 hbox hb; replace HO1_3 := aR HO1_3 hb; have BKA := Aside0.mk hbox; have GWA := Aside0.mk ((by rw [hg]; exact (by first | exact HK.out.1 | exact (show Kept w _ (fun k_ => P1_3_ k_) from pH).1) : w.heap.size ≤ gbA)); replace HK := Aside0.mk (Kept.below (S := (fun k_ => P1_3_ k_)) pH hb); have GEA := aZ w0 hg; replace HB := aH hb; have NBB_A := aL BKB hg; have NBA_B := aG BKB hg; replace BKB := aB BKB hb; clear hb hbox hg))
  replace HO1_3 := Aside0.mk (Kd.R_drew HO1_3.out)
  replace BKB := Aside0.mk (blk_drew BKB.out)
  replace BKA := Aside0.mk (blk_drew BKA.out)
  replace HK := Aside0.mk (Kept.drew HK.out)
  replace HB := Aside0.mk (below_drew1 HB.out)
  refine start_ (n := 5) (S := fun w' => w'.cell? ⟨gbA, 0, none⟩ = some (.int .i64 a1_0) ∧ w'.cell? ⟨gbA, 1, none⟩ = some (.int .i64 a1_1) ∧ w'.cell? ⟨gbA, 2, none⟩ = some (.int .i64 a1_2) ∧ w'.cell? ⟨gbA, 3, none⟩ = some (.slice Ao8 l1_3.length co8) ∧ w'.cell? ⟨gbB, 0, none⟩ = some (.int .i64 a0_0) ∧ w'.cell? ⟨gbB, 1, none⟩ = some (.slice A0_1 l0_1.length c0_1)) (ds := []) #[false, false, false, false, false] kr rfl rfl ⟨(blk_cell BKA.out 0).trans rfl, (blk_cell BKA.out 1).trans rfl, (blk_cell BKA.out 2).trans rfl, (blk_cell BKA.out 3).trans rfl, (blk_cell BKB.out 0).trans rfl, (blk_cell BKB.out 1).trans rfl⟩ (fun hHeld => ?_)
  generalize w9.drew = w10 at HO1_3 BKB BKA HK HB hHeld ⊢
  refine tA6 0 11 kr hHeld ?_
  refine tA6 2 13 kr hHeld ?_
  refine one_ (i := 1) (N := some 12) #[true, true, true, false, false] rfl rfl kr (by decide) (fun K hK => ?_)
  refine goes_ Try.func50 kr rfl #[.agg #[.int .i64 a1_0, .int .i64 a1_1, .int .i64 a1_2, .slice Ao8 l1_3.length co8]] (by rfl) rfl rfl p5 ?_
  with_reducible refine (impl_FromMatrix.calls k a1_0 a1_1 a1_2 _ _ l1_3 tJ tU _ ?side1 ?side2 A5.out).mono ?_
  (case side1 => repeat (first | exact (Kd.R_reads' HO1_3.out).2.2 | (with_reducible refine Kd.C_alloc ?_ _) | (with_reducible refine Kd.C_drewN ?_ _) | (with_reducible refine Kd.C_drew ?_)))
  (case side2 => exact (Kd.R_reads' HO1_3.out).2.1)
  rintro e w11 ⟨vY, rfl, ho0, hb⟩
  refine ⟨_, rfl, ?_⟩
  have HOQ := Aside0.mk (Kd.R_lower (Kd.R_new' (Kd.R_newM (M := fun k_ => (P1_3_ k_ ∨ w.heap.size ≤ k_)) ho0 (by first | exact HK.out.1 | exact (show Kept w _ (fun k_ => P1_3_ k_) from pH).1) (fun k_ h_ => .inr h_)) (Kd.R_lt (pR HO1_3.out))) (below_size pB))
  replace HO1_3 := Aside0.mk (Kd.R_elder' (pR HO1_3.out) (Kd.R_base ho0) hb)
  replace BKB := aB BKB hb
  replace BKA := aB BKA hb
  replace HK := Aside0.mk (Kept.below (S := (fun k_ => P1_3_ k_)) pH hb)
  replace HB := aH hb
  (try clear hb)
  (try clear hb2)
  (try clear hk)
  (try clear hi)
  (try clear ho0)
  obtain ⟨Ao12, co12, eo12⟩ := Kd.R_slice HOQ.out
  (first | subst eo12 | (injection eo12 with f1_ f2_ f3_; have f4_ := f1_.symm; have f5_ := f3_.symm; clear f1_ f2_ f3_; subst f4_; subst f5_))
  refine hK.out _ _ ⟨(blk_cell BKA.out 0).trans rfl, (blk_cell BKA.out 1).trans rfl, (blk_cell BKA.out 2).trans rfl, (blk_cell BKA.out 3).trans rfl, (blk_cell BKB.out 0).trans rfl, (blk_cell BKB.out 1).trans rfl⟩ (fun hHeld => ?_)
  clear hK K
  refine norm_ (a' := ?_) ?_ ?_
  rotate_left
  ·show Act.put _ (some 12) _ = _
   simp only [Act.put, List.setIfInBounds_toArray, List.set_cons_zero, List.set_cons_succ, i64_w, i32_w]
   rfl
  refine one_ (i := 3) (N := some 14) #[true, true, true, true, false] rfl rfl kr (by decide) (fun K hK => ?_)
  refine goes_ Try.func49 kr rfl #[.agg #[.int .i64 tJ, .slice Ao12 tU.length co12], .agg #[.int .i64 a0_0, .slice A0_1 l0_1.length c0_1]] (by rfl) rfl rfl p5 ?_
  with_reducible refine (impl_EqualMatroid.calls k tJ _ _ tU a0_0 _ _ l0_1 tO _ ?side1 ?side2 ?side3 ?side4 A6.out).mono ?_
  (case side1 => repeat (first | exact (Kd.R_reads' HOQ.out).2.2 | (with_reducible refine Kd.C_alloc ?_ _) | (with_reducible refine Kd.C_drewN ?_ _) | (with_reducible refine Kd.C_drew ?_)))
  (case side2 => exact (Kd.R_reads' HOQ.out).2.1)
  (case side3 => exact Kd.C_kept_now HR0_1.out pH)
  (case side4 => exact HC0_1.out)
  rintro e w13 ⟨rfl, hb⟩
  refine ⟨_, rfl, ?_⟩
  replace HO1_3 := aR HO1_3 hb
  replace HOQ := aR HOQ hb
  replace BKB := aB BKB hb
  replace BKA := aB BKA hb
  replace HK := Aside0.mk (Kept.below (S := (fun k_ => P1_3_ k_)) pH hb)
  replace HB := aH hb
  (try clear hb)
  (try clear hb2)
  (try clear hk)
  (try clear hi)
  refine hK.out _ _ ⟨(blk_cell BKA.out 0).trans rfl, (blk_cell BKA.out 1).trans rfl, (blk_cell BKA.out 2).trans rfl, (blk_cell BKA.out 3).trans rfl, (blk_cell BKB.out 0).trans rfl, (blk_cell BKB.out 1).trans rfl⟩ (fun hHeld => ?_)
  clear hK K
  refine norm_ (a' := ?_) ?_ ?_
  rotate_left
  ·show Act.put _ (some 14) _ = _
   simp only [Act.put, List.setIfInBounds_toArray, List.set_cons_zero, List.set_cons_succ, i64_w, i32_w]
   rfl
  refine pA 4 6 kr ?_
  refine done_ kr ?_
  try go_wp2
  go_ret
  exact ⟨p8, by (with_reducible repeat (first | apply Kd.R_alloc | apply Kd.R_drewN | apply Kd.R_drew)); exact Kd.R_mono HO1_3.out (fun _ hk => hk.1), pB, pH⟩
 ·rw [if_neg c4] at H
  have c4b0 : ((l2.length : Int) == 0) = false := beq_eq_false_iff_ne.mpr c4
  have c4b1 : ((l2.length : Int) != 0) = true := bne_iff_ne.mpr c4
  have c4b2 : ¬ (l2 = []) := fun h_ => c4 (by rw [h_]; rfl)
  have H' := Aside0.mk H
  clear H
  go_enter Try.func34, Try.ntmps34
  go_wp2_with (first | (refine bE 3 #[.int .i64 a0_0, .slice A0_1 l0_1.length c0_1] 27 ?_; intro gbB hg w14 hbox hb; replace HO1_3 := aR HO1_3 hb; have BKB := Aside0.mk hbox; have GWB := Aside0.mk ((by rw [hg]; exact (by first | exact HK.out.1 | exact (show Kept w _ (fun k_ => P1_3_ k_) from pH).1) : w.heap.size ≤ gbB)); replace HK := Aside0.mk (Kept.below (S := (fun k_ => P1_3_ k_)) pH hb); have GEB := aZ w0 hg; replace HB := aH hb; clear hb hbox hg; obtain ⟨Ao15, co15, eo15⟩ := Kd.R_slice HO1_3.out; subst eo15) | (refine bE 4 #[.int .i64 a1_0, .int .i64 a1_1, .int .i64 a1_2, .slice Ao15 l1_3.length co15] 32 ?_; intro gbA hg w16 hbox hb; replace HO1_3 := aR HO1_3 hb; have BKA := Aside0.mk hbox; have GWA := Aside0.mk ((by rw [hg]; exact (by first | exact HK.out.1 | exact (show Kept w _ (fun k_ => P1_3_ k_) from pH).1) : w.heap.size ≤ gbA)); replace HK := Aside0.mk (Kept.below (S := (fun k_ => P1_3_ k_)) pH hb); have GEA := aZ w0 hg; replace HB := aH hb; have NBB_A := aL BKB hg; have NBA_B := aG BKB hg; replace BKB := aB BKB hb; clear hb hbox hg))
  go_loopg [7] k (fun kq v7 w' => ∃ (x7_1 : Int) (xD_1 : List Int), v7 = .int .i64 x7_1 ∧ Aside0 (impl_fillCells.l0 kq l2 x7_1 a0_0 l0_1 a1_0 a1_1 a1_2 xD_1 = some (r1, r2)) ∧ Aside0 (kq ≤ k) ∧ Aside0 (Kd.R (Kd.int .i64) 3 w' w0.heap.size (fun k_ => (P1_3_ k_ ∨ w.heap.size ≤ k_)) (.slice Ao15 l1_3.length co15) xD_1) ∧ Aside0 (w'.heap[gbB]? = some (.cells #[.int .i64 a0_0, (.slice A0_1 l0_1.length c0_1)] 27 (0, 0))) ∧ Aside0 (w'.heap[gbA]? = some (.cells #[.int .i64 a1_0, .int .i64 a1_1, .int .i64 a1_2, (.slice Ao15 l1_3.length co15)] 32 (0, 0))) ∧ Aside0 (Kept w w' (fun k_ => P1_3_ k_)) ∧ Aside0 (Below w0.heap.size w0 w'))
  case atStart => exact ⟨(1), (l1_3), p7, H', ⟨Nat.le_refl _⟩, ⟨pR HO1_3.out⟩, ⟨pK BKB.out⟩, ⟨pK BKA.out⟩, ⟨pH⟩, ⟨pB⟩⟩
  case round =>
   clear H'
   try clear c2
   try clear c4
   try clear c4b0
   try clear c4b1
   try clear c4b2
   obtain ⟨x7_1, xD_1, rfl, HA, HK1, HO_D, BKB, BKA, HK, HB⟩ := hrel
   have hlD_1 := (Kd.R_reads' HO_D.out).1
   rw [hlD_1] at HO_D
   (try simp only [hlD_1])
   (try simp only [hlD_1] at BKB)
   (try simp only [hlD_1] at BKA)
   cases gk with
   | zero => exact absurd HA.out (by simp [impl_fillCells.l0])
   | succ k1 =>
    have H := HA.out
    clear HA
    simp only [impl_fillCells.l0] at H
    by_cases c17 : x7_1 < a1_0
    ·rw [if_pos c17] at H
     have c17b0 : decide (x7_1 < a1_0) = true := decide_eq_true c17
     clear c17
     by_cases c18 : 0 < (l2.length : Int)
     ·rw [if_pos c18] at H
      have c18b0 : decide (0 < (l2.length : Int)) = true := decide_eq_true c18
      have c18b1 : decide (0 < l2.length) = true := decide_eq_true (by omega)
      clear c18
      by_cases c19 : 0 ≤ (rd l2 0)
      ·rw [if_pos c19] at H
       have c19b0 : decide (0 ≤ (rd l2 0)) = true := decide_eq_true c19
       clear c19
       by_cases c20 : (rd l2 0) < (xD_1.length : Int)
       ·rw [if_pos c20] at H
        have c20b0 : decide ((rd l2 0) < (xD_1.length : Int)) = true := decide_eq_true c20
        clear c20
        obtain ⟨yG, hyG⟩ : ∃ y_ : List Int, y_ = (xD_1.set ((rd l2 0) : Int).toNat x7_1) := ⟨_, rfl⟩
        replace H : (if 1 ≤ (l2.length : Int) then ((impl_fillCells.f k1 a0_0 l0_1 a1_0 a1_1 a1_2 yG (l2.drop 1)).bind fun btI => (if btI.1 = true then (some (true, btI.2)) else (impl_fillCells.l0 k1 l2 (wrap64 (x7_1 + 1)) a0_0 l0_1 a1_0 a1_1 a1_2 btI.2))) else (none)) = some (r1, r2) := yR hyG H
        have NyG := Aside0.mk hyG
        clear hyG
        by_cases c22 : 1 ≤ (l2.length : Int)
        ·rw [if_pos c22] at H
         have c22b0 := eq_true c22
         have c22b1 : decide (1 ≤ (l2.length : Int)) = true := decide_eq_true c22
         clear c22
         obtain ⟨yF, hyF⟩ : ∃ y_ : List Int, y_ = (l2.drop 1) := ⟨_, rfl⟩
         replace H : ((impl_fillCells.f k1 a0_0 l0_1 a1_0 a1_1 a1_2 yG yF).bind fun btI => (if btI.1 = true then (some (true, btI.2)) else (impl_fillCells.l0 k1 l2 (wrap64 (x7_1 + 1)) a0_0 l0_1 a1_0 a1_1 a1_2 btI.2))) = some (r1, r2) := yR hyF H
         have NyF := Aside0.mk hyF
         clear hyF
         replace H := Option.bind_eq_some_iff.mp H
         obtain ⟨⟨tI, tT⟩, AX, H⟩ := H
         replace H : (if tI = true then (some (true, tT)) else (impl_fillCells.l0 k1 l2 (wrap64 (x7_1 + 1)) a0_0 l0_1 a1_0 a1_1 a1_2 tT)) = some (r1, r2) := H
         have A23 := Aside0.mk AX
         clear AX
         by_cases c24 : tI = true
         ·subst c24
          replace H := iP H
          simp only [Option.some.injEq, Prod.mk.injEq] at H
          obtain ⟨rfl, rfl⟩ := H
          have hnb25 := NBA_B.out
          have hnc25 := NBB_A.out
          obtain ⟨hcz26_0, hcz26_1, hcz26_2, hcz26_3, hfz26_0, hfz26_1, hfz26_2, hfz26_3⟩ := bc4 BKA.out
          try go_wp2
          replace HO_D := Aside0.mk (Kd.R_drew HO_D.out)
          replace BKB := Aside0.mk (blk_drew BKB.out)
          replace BKA := Aside0.mk (blk_drew BKA.out)
          replace HK := Aside0.mk (Kept.drew HK.out)
          replace HB := Aside0.mk (below_drew1 HB.out)
          have pE : 0 ≤ (0 : Int) := (by omega)
          have qE : 0 < (l2.length : Int) := oD
          obtain ⟨adE, eE, hxE_0⟩ := Kd.at_int (Kd.C_kept_now HR2.out HK.out) 0 pE qE
          have hwE_0 := hxE_0
          (try rw [show ((0 : Int)).toNat = 0 from rfl] at hwE_0)
          (try rw [show 0 * 1 = 0 from rfl] at hwE_0)
          (try rw [Addr.add_zero'] at hwE_0)
          cases eE
          have qiE : (0 < l2.length) = True := eq_true (by omega)
          (try rw [show ((0 : Int)).toNat = 0 from rfl] at hxE_0)
          (try rw [Addr.add_zero'] at hxE_0)
          replace pE := eq_true pE
          replace qE := eq_true qE
          have p21 : 0 ≤ ((rd l2 0) : Int) := oD
          have q21 : ((rd l2 0) : Int) < ((xD_1.length : Int) : Int) := oD
          obtain ⟨go21, co21, eo21, gb21, gl21, cl21, HG21⟩ := Kd.R_form HO_D.out (by omega)
          (first | cases eo21 | (injection eo21 with ea_ en_ ec_; (first | subst ea_ | (injection ea_ with ea_; subst ea_)); subst ec_; clear en_))
          have GB21 := Aside0.mk gb21
          have GG21 := Aside0.mk HG21
          clear gb21 gl21 HG21
          have HMgo21 := Aside0.mk (show (P1_3_ go21 ∨ w.heap.size ≤ go21) from (HO_D.out.1 _ rfl))
          obtain ⟨hx21_0, hf21_0⟩ := Kd.R_celln 0 HO_D.out ((rd l2 0) : Int) p21 q21
          replace p21 := eq_true p21
          replace q21 := eq_true q21
          have HP28 := Kd.R_putn HO_D.out ((rd l2 0) : Int) x7_1
          rw [← NyG.out] at HP28
          have HQ28 := Aside0.mk HP28
          clear HP28
          refine start_ (n := 8) (S := fun w' => w'.cell? ⟨gbA, 0, none⟩ = some (.int .i64 a1_0) ∧ w'.cell? ⟨gbA, 1, none⟩ = some (.int .i64 a1_1) ∧ w'.cell? ⟨gbA, 2, none⟩ = some (.int .i64 a1_2) ∧ w'.cell? ⟨gbA, 3, none⟩ = some (.slice (some ⟨go21, 0, none⟩) xD_1.length co15) ∧ w'.cell? adE = some (.int .i64 (rd l2 0))) (ds := [7]) #[false, false, false, false, false, false, false, false] kr rfl rfl ⟨(blk_cell BKA.out 0).trans rfl, (blk_cell BKA.out 1).trans rfl, (blk_cell BKA.out 2).trans rfl, (blk_cell BKA.out 3).trans rfl, (by have h_ := Kd.foot_int (HR2.out _ (by repeat (first | exact HK.out | apply Kept.alloc | apply Kept.drewN | apply Kept.drew | refine Kept.setCell ?_ HMgo21.out _))) (0 : Int) (of_eq_true pE) (of_eq_true qE); rw [show ((0 : Int)).toNat = 0 from rfl, Addr.add_zero'] at h_; exact h_)⟩ (fun hHeld => ?_); refine with_tabW impl_fillCells.tab6 impl_fillCells.bits6 (fun HT_ HW_ => ?_)
          generalize wr.drew = w27 at HO_D BKB BKA HK HB GG21 HQ28 hf21_0 hx21_0 hxE_0 hHeld ⊢
          refine pA 0 21 (any_of HT_.out kr) ?_
          refine pA 2 23 (any_of HT_.out kr) ?_
          refine pA 3 24 (any_of HT_.out kr) ?_
          refine pA 5 26 (any_of HT_.out kr) ?_
          refine tA5 1 22 (take_ofW HT_.out HW_.out kr) hHeld ?_
          refine tA5 4 25 (take_ofW HT_.out HW_.out kr) hHeld ?_
          refine pA 6 27 (any_of HT_.out kr) ?_
          refine last_ (i := 7) (N := none) #[true, true, true, true, true, true, true, true] rfl rfl (one_of HT_.out kr) (by decide) (fun K hK => ?_)
          refine skip_ (w1 := ?_) (by rfl) rfl ?_ ?_
          rotate_left
          ·go_simp
           rfl
          refine hK.out _ _ ?_
          clear hK K
          refine done_ (done_of HT_.out kr) ?_
          try go_wp2
          have n0_ : Aside0 (Kd.R (Kd.int .i64) 3 (w27.setCell ⟨go21, ((rd l2 0) : Int).toNat, none⟩ (.int .i64 x7_1)) w0.heap.size (fun k_ => (P1_3_ k_ ∨ w.heap.size ≤ k_)) (.slice (some ⟨go21, 0, none⟩) xD_1.length co15) yG) := ⟨pR HQ28.out⟩
          have n1_ : Aside0 ((w27.setCell ⟨go21, ((rd l2 0) : Int).toNat, none⟩ (.int .i64 x7_1)).heap[gbB]? = some (.cells #[.int .i64 a0_0, .slice A0_1 l0_1.length c0_1] 27 (0, 0))) := ⟨by (with_reducible repeat (first | refine blk_drewN ?_ _ | refine blk_drew ?_ | refine blk_alloc ?_ _)); refine blk_far ?_ (by have h_ := Kd.R_ne HO_D.out BKB.out (by decide); intro e_; exact h_ (by rw [e_]; rfl)) _; (with_reducible repeat (first | refine blk_drewN ?_ _ | refine blk_drew ?_ | refine blk_alloc ?_ _)); exact BKB.out⟩
          have n2_ : Aside0 ((w27.setCell ⟨go21, ((rd l2 0) : Int).toNat, none⟩ (.int .i64 x7_1)).heap[gbA]? = some (.cells #[.int .i64 a1_0, .int .i64 a1_1, .int .i64 a1_2, .slice (some ⟨go21, 0, none⟩) xD_1.length co15] 32 (0, 0))) := ⟨by (with_reducible repeat (first | refine blk_drewN ?_ _ | refine blk_drew ?_ | refine blk_alloc ?_ _)); refine blk_far ?_ (by have h_ := Kd.R_ne HO_D.out BKA.out (by decide); intro e_; exact h_ (by rw [e_]; rfl)) _; (with_reducible repeat (first | refine blk_drewN ?_ _ | refine blk_drew ?_ | refine blk_alloc ?_ _)); exact BKA.out⟩
          have n3_ : Aside0 (Kept w (w27.setCell ⟨go21, ((rd l2 0) : Int).toNat, none⟩ (.int .i64 x7_1)) (fun k_ => P1_3_ k_)) := ⟨by repeat (first | (with_reducible first | exact HK.out | apply Kept.alloc | apply Kept.drewN | apply Kept.drew | refine Kept.setCell ?_ HMgo21.out _ | refine Kept.setCell ?_ (.inr GWB.out) _ | refine Kept.setCell ?_ (.inr GWA.out) _) | exact HK.out)⟩
          have n4_ : Aside0 (Below w0.heap.size w0 (w27.setCell ⟨go21, ((rd l2 0) : Int).toNat, none⟩ (.int .i64 x7_1))) := ⟨by repeat (first | (with_reducible first | exact HB.out | apply below_alloc | apply pw_below_drewN | apply below_drew1 | refine below_set ?_ GB21.out | refine below_set ?_ GEB.out | refine below_set ?_ GEA.out) | exact HB.out)⟩
          (try clear HO_D)
          (try clear BKB)
          (try clear BKA)
          (try clear HK)
          (try clear HB)
          generalize (w27.setCell ⟨go21, ((rd l2 0) : Int).toNat, none⟩ (.int .i64 x7_1)) = w29 at n0_ n1_ n2_ n3_ n4_ ⊢
          have HO_D := n0_
          have BKB := n1_
          have BKA := n2_
          have HK := n3_
          have HB := n4_
          clear n0_ n1_ n2_ n3_ n4_
          replace HO_D := Aside0.mk (Kd.R_drew HO_D.out)
          replace BKB := Aside0.mk (blk_drew BKB.out)
          replace BKA := Aside0.mk (blk_drew BKA.out)
          replace HK := Aside0.mk (Kept.drew HK.out)
          replace HB := Aside0.mk (below_drew1 HB.out)
          have q31 : (1 : Int) ≤ ((l2.length : Int) : Int) := oD
          obtain ⟨iV, hiV, _, hsz31, _⟩ := info_parts info3
          have hroom31 : l2.length ≤ c2 := HC2.out
          have hC31 : Kd.C (Kd.int .i64) _ (some adE) l2.length l2 := (Kd.C_kept_now HR2.out HK.out)
          have hcut31 := cut_from (P := Try.prog) 22 3 .i64 Try.underlying22 hiV 1 hsz31 (some adE) l2.length c2 1 (by omega) q31
          have hr31 := Kd.C_drop (m := (1 : Int).toNat) (c := c2) hC31 (by omega) hroom31
          obtain ⟨A31, hA31⟩ : ∃ A1, A1 = (if c2 = (1 : Int).toNat then (some adE) else ((some adE) : Option Addr).map (·.add ((1 : Int).toNat * 1))) := ⟨_, rfl⟩
          obtain ⟨c31, hc31⟩ : ∃ c1, c1 = c2 - (1 : Int).toNat := ⟨_, rfl⟩
          have hy31 : yF.length = l2.length - (1 : Int).toNat := (by rw [NyF.out, List.length_drop] <;> omega)
          rw [show (l2).drop (1 : Int).toNat = yF from NyF.out.symm] at hr31
          replace hr31 : Kd.C (Kd.int .i64) _ A31 yF.length yF := (by rw [hA31]; exact hr31)
          rw [← hy31, ← hA31, ← hc31] at hcut31
          have HRL := Aside0.mk hr31
          have HCL := Aside0.mk (show yF.length ≤ c31 from by rw [hy31, hc31]; exact Nat.sub_le_sub_right hroom31 _)
          clear hr31 hC31 hroom31 hiV hsz31 hc31
          have KY31 := Aside0.mk hy31
          have KA31 := Aside0.mk hA31
          clear hy31 hA31
          have KL31 := Aside0.mk (show 1 ≤ l2.length from by omega)
          replace q31 := eq_true q31
          refine start_ (n := 5) (S := fun w' => w'.cell? ⟨gbB, 0, none⟩ = some (.int .i64 a0_0) ∧ w'.cell? ⟨gbB, 1, none⟩ = some (.slice A0_1 l0_1.length c0_1) ∧ w'.cell? ⟨gbA, 0, none⟩ = some (.int .i64 a1_0) ∧ w'.cell? ⟨gbA, 1, none⟩ = some (.int .i64 a1_1) ∧ w'.cell? ⟨gbA, 2, none⟩ = some (.int .i64 a1_2) ∧ w'.cell? ⟨gbA, 3, none⟩ = some (.slice (some ⟨go21, 0, none⟩) xD_1.length co15)) (ds := []) #[false, false, false, false, false] kr rfl rfl ⟨(blk_cell BKB.out 0).trans rfl, (blk_cell BKB.out 1).trans rfl, (blk_cell BKA.out 0).trans rfl, (blk_cell BKA.out 1).trans rfl, (blk_cell BKA.out 2).trans rfl, (blk_cell BKA.out 3).trans rfl⟩ (fun hHeld => ?_)
          generalize w29.drew = w30 at HO_D BKB BKA HK HB HQ28 HRL hHeld ⊢
          refine pA 2 30 kr ?_
          refine pA 3 31 kr ?_
          refine tA6 0 28 kr hHeld ?_
          refine tA6 1 29 kr hHeld ?_
          refine one_ (i := 4) (N := some 32) #[true, true, true, true, true] rfl rfl kr (by decide) (fun K hK => ?_)
          refine goes_ Try.func34 kr rfl #[.agg #[.int .i64 a0_0, .slice A0_1 l0_1.length c0_1], .agg #[.int .i64 a1_0, .int .i64 a1_1, .int .i64 a1_2, .slice (some ⟨go21, 0, none⟩) xD_1.length co15], .slice A31 yF.length c31] (by rfl) rfl rfl p5 ?_
          with_reducible refine (ih k1 (by have := HK1.out; omega) a0_0 _ _ l0_1 a1_0 a1_1 a1_2 (fun k_ => some k_ = (.slice (some ⟨go21, 0, none⟩) xD_1.length co15 : Value).ownBlock) (.slice (some ⟨go21, 0, none⟩) xD_1.length co15) yG _ _ yF true tT w0 _ ?side1 ?side2 ?side3 ?side4 ?side5 ?side6 A23.out).mono ?_
          (case side1 => repeat (first | (with_reducible first | exact HB.out | apply below_alloc | apply pw_below_drewN | apply below_drew1 | refine below_set ?_ GEB.out | refine below_set ?_ GEA.out) | exact HB.out))
          (case side2 => exact Kd.C_kept_call HR0_1.out pH (fun k_ hs_ => (fun e_ => (HO_D.out.1 k_ e_.symm)) hs_))
          (case side3 => exact HC0_1.out)
          (case side4 => exact Kd.R_tight rfl HO_D.out)
          (case side5 => exact fun W_ hW_ => by have h_ := Kd.C_drop (m := 1) (c := c2) ((Kd.C_kept_call HR2.out pH (fun k_ hs_ => (fun e_ => (HO_D.out.1 k_ e_.symm)) hs_)) W_ hW_) KL31.out HC2.out; rw [show (l2).drop 1 = yF from NyF.out.symm] at h_; rw [KA31.out]; exact h_)
          (case side6 => exact HCL.out)
          rintro e w32 ⟨rfl, hy0, hb, hkp⟩
          refine ⟨_, rfl, ?_⟩
          replace BKB := Aside0.mk (blk_kept (pK BKB.out) hkp (fun hs_ => (fun e_ => (Kd.R_ne HO_D.out BKB.out (by decide)) e_) hs_))
          replace BKA := Aside0.mk (blk_kept (pK BKA.out) hkp (fun hs_ => (fun e_ => (Kd.R_ne HO_D.out BKA.out (by decide)) e_) hs_))
          replace HK := Aside0.mk (Kept.then_ (S := (fun k_ => P1_3_ k_)) pH hkp (fun k_ hs_ => (fun e_ => (HO_D.out.1 k_ e_.symm)) hs_))
          replace HO_D := Aside0.mk (Kd.R_reok rfl hy0 (fun k_ e_ => HO_D.out.1 k_ e_))
          replace HB := Aside0.mk (hb)
          (try clear hb)
          (try clear hkp)
          (try clear hy0)
          refine hK.out _ _ ⟨(blk_cell BKB.out 0).trans rfl, (blk_cell BKB.out 1).trans rfl, (blk_cell BKA.out 0).trans rfl, (blk_cell BKA.out 1).trans rfl, (blk_cell BKA.out 2).trans rfl, (blk_cell BKA.out 3).trans rfl⟩ (fun hHeld => ?_)
          clear hK K
          refine norm_ (a' := ?_) ?_ ?_
          rotate_left
          ·show Act.put _ (some 32) _ = _
           simp only [Act.put, List.setIfInBounds_toArray, List.set_cons_zero, List.set_cons_succ, i64_w, i32_w]
           rfl
          refine done_ kr ?_
          try go_wp2
          go_ret
          exact ⟨p8, (by first | exact (pR HO_D.out) | (simp only [hlD_1]; exact (pR HO_D.out))), pB, pH⟩
         ·replace c24 := Bool.eq_false_iff.mpr c24
          subst c24
          replace H := iN H
          have H' := Aside0.mk H
          clear H
          have hnb33 := NBA_B.out
          have hnc33 := NBB_A.out
          obtain ⟨hcz34_0, hcz34_1, hcz34_2, hcz34_3, hfz34_0, hfz34_1, hfz34_2, hfz34_3⟩ := bc4 BKA.out
          try go_wp2
          replace HO_D := Aside0.mk (Kd.R_drew HO_D.out)
          replace BKB := Aside0.mk (blk_drew BKB.out)
          replace BKA := Aside0.mk (blk_drew BKA.out)
          replace HK := Aside0.mk (Kept.drew HK.out)
          replace HB := Aside0.mk (below_drew1 HB.out)
          have pE : 0 ≤ (0 : Int) := (by omega)
          have qE : 0 < (l2.length : Int) := oD
          obtain ⟨adE, eE, hxE_0⟩ := Kd.at_int (Kd.C_kept_now HR2.out HK.out) 0 pE qE
          have hwE_0 := hxE_0
          (try rw [show ((0 : Int)).toNat = 0 from rfl] at hwE_0)
          (try rw [show 0 * 1 = 0 from rfl] at hwE_0)
          (try rw [Addr.add_zero'] at hwE_0)
          cases eE
          have qiE : (0 < l2.length) = True := eq_true (by omega)
          (try rw [show ((0 : Int)).toNat = 0 from rfl] at hxE_0)
          (try rw [Addr.add_zero'] at hxE_0)
          replace pE := eq_true pE
          replace qE := eq_true qE
          have p21 : 0 ≤ ((rd l2 0) : Int) := oD
          have q21 : ((rd l2 0) : Int) < ((xD_1.length : Int) : Int) := oD
          obtain ⟨go21, co21, eo21, gb21, gl21, cl21, HG21⟩ := Kd.R_form HO_D.out (by omega)
          (first | cases eo21 | (injection eo21 with ea_ en_ ec_; (first | subst ea_ | (injection ea_ with ea_; subst ea_)); subst ec_; clear en_))
          have GB21 := Aside0.mk gb21
          have GG21 := Aside0.mk HG21
          clear gb21 gl21 HG21
          have HMgo21 := Aside0.mk (show (P1_3_ go21 ∨ w.heap.size ≤ go21) from (HO_D.out.1 _ rfl))
          obtain ⟨hx21_0, hf21_0⟩ := Kd.R_celln 0 HO_D.out ((rd l2 0) : Int) p21 q21
          replace p21 := eq_true p21
          replace q21 := eq_true q21
          have HP36 := Kd.R_putn HO_D.out ((rd l2 0) : Int) x7_1
          rw [← NyG.out] at HP36
          have HQ36 := Aside0.mk HP36
          clear HP36
          refine start_ (n := 8) (S := fun w' => w'.cell? ⟨gbA, 0, none⟩ = some (.int .i64 a1_0) ∧ w'.cell? ⟨gbA, 1, none⟩ = some (.int .i64 a1_1) ∧ w'.cell? ⟨gbA, 2, none⟩ = some (.int .i64 a1_2) ∧ w'.cell? ⟨gbA, 3, none⟩ = some (.slice (some ⟨go21, 0, none⟩) xD_1.length co15) ∧ w'.cell? adE = some (.int .i64 (rd l2 0))) (ds := [7]) #[false, false, false, false, false, false, false, false] kr rfl rfl ⟨(blk_cell BKA.out 0).trans rfl, (blk_cell BKA.out 1).trans rfl, (blk_cell BKA.out 2).trans rfl, (blk_cell BKA.out 3).trans rfl, (by have h_ := Kd.foot_int (HR2.out _ (by repeat (first | exact HK.out | apply Kept.alloc | apply Kept.drewN | apply Kept.drew | refine Kept.setCell ?_ HMgo21.out _))) (0 : Int) (of_eq_true pE) (of_eq_true qE); rw [show ((0 : Int)).toNat = 0 from rfl, Addr.add_zero'] at h_; exact h_)⟩ (fun hHeld => ?_); refine with_tabW impl_fillCells.tab6 impl_fillCells.bits6 (fun HT_ HW_ => ?_)
          generalize wr.drew = w35 at HO_D BKB BKA HK HB GG21 HQ36 hf21_0 hx21_0 hxE_0 hHeld ⊢
          refine pA 0 21 (any_of HT_.out kr) ?_
          refine pA 2 23 (any_of HT_.out kr) ?_
          refine pA 3 24 (any_of HT_.out kr) ?_
          refine pA 5 26 (any_of HT_.out kr) ?_
          refine tA5 1 22 (take_ofW HT_.out HW_.out kr) hHeld ?_
          refine tA5 4 25 (take_ofW HT_.out HW_.out kr) hHeld ?_
          refine pA 6 27 (any_of HT_.out kr) ?_
          refine last_ (i := 7) (N := none) #[true, true, true, true, true, true, true, true] rfl rfl (one_of HT_.out kr) (by decide) (fun K hK => ?_)
          refine skip_ (w1 := ?_) (by rfl) rfl ?_ ?_
          rotate_left
          ·go_simp
           rfl
          refine hK.out _ _ ?_
          clear hK K
          refine done_ (done_of HT_.out kr) ?_
          try go_wp2
          have n0_ : Aside0 (Kd.R (Kd.int .i64) 3 (w35.setCell ⟨go21, ((rd l2 0) : Int).toNat, none⟩ (.int .i64 x7_1)) w0.heap.size (fun k_ => (P1_3_ k_ ∨ w.heap.size ≤ k_)) (.slice (some ⟨go21, 0, none⟩) xD_1.length co15) yG) := ⟨pR HQ36.out⟩
          have n1_ : Aside0 ((w35.setCell ⟨go21, ((rd l2 0) : Int).toNat, none⟩ (.int .i64 x7_1)).heap[gbB]? = some (.cells #[.int .i64 a0_0, .slice A0_1 l0_1.length c0_1] 27 (0, 0))) := ⟨by (with_reducible repeat (first | refine blk_drewN ?_ _ | refine blk_drew ?_ | refine blk_alloc ?_ _)); refine blk_far ?_ (by have h_ := Kd.R_ne HO_D.out BKB.out (by decide); intro e_; exact h_ (by rw [e_]; rfl)) _; (with_reducible repeat (first | refine blk_drewN ?_ _ | refine blk_drew ?_ | refine blk_alloc ?_ _)); exact BKB.out⟩
          have n2_ : Aside0 ((w35.setCell ⟨go21, ((rd l2 0) : Int).toNat, none⟩ (.int .i64 x7_1)).heap[gbA]? = some (.cells #[.int .i64 a1_0, .int .i64 a1_1, .int .i64 a1_2, .slice (some ⟨go21, 0, none⟩) xD_1.length co15] 32 (0, 0))) := ⟨by (with_reducible repeat (first | refine blk_drewN ?_ _ | refine blk_drew ?_ | refine blk_alloc ?_ _)); refine blk_far ?_ (by have h_ := Kd.R_ne HO_D.out BKA.out (by decide); intro e_; exact h_ (by rw [e_]; rfl)) _; (with_reducible repeat (first | refine blk_drewN ?_ _ | refine blk_drew ?_ | refine blk_alloc ?_ _)); exact BKA.out⟩
          have n3_ : Aside0 (Kept w (w35.setCell ⟨go21, ((rd l2 0) : Int).toNat, none⟩ (.int .i64 x7_1)) (fun k_ => P1_3_ k_)) := ⟨by repeat (first | (with_reducible first | exact HK.out | apply Kept.alloc | apply Kept.drewN | apply Kept.drew | refine Kept.setCell ?_ HMgo21.out _ | refine Kept.setCell ?_ (.inr GWB.out) _ | refine Kept.setCell ?_ (.inr GWA.out) _) | exact HK.out)⟩
          have n4_ : Aside0 (Below w0.heap.size w0 (w35.setCell ⟨go21, ((rd l2 0) : Int).toNat, none⟩ (.int .i64 x7_1))) := ⟨by repeat (first | (with_reducible first | exact HB.out | apply below_alloc | apply pw_below_drewN | apply below_drew1 | refine below_set ?_ GB21.out | refine below_set ?_ GEB.out | refine below_set ?_ GEA.out) | exact HB.out)⟩
          (try clear HO_D)
          (try clear BKB)
          (try clear BKA)
          (try clear HK)
          (try clear HB)
          generalize (w35.setCell ⟨go21, ((rd l2 0) : Int).toNat, none⟩ (.int .i64 x7_1)) = w37 at n0_ n1_ n2_ n3_ n4_ ⊢
          have HO_D := n0_
          have BKB := n1_
          have BKA := n2_
          have HK := n3_
          have HB := n4_
          clear n0_ n1_ n2_ n3_ n4_
          replace HO_D := Aside0.mk (Kd.R_drew HO_D.out)
          replace BKB := Aside0.mk (blk_drew BKB.out)
          replace BKA := Aside0.mk (blk_drew BKA.out)
          replace HK := Aside0.mk (Kept.drew HK.out)
          replace HB := Aside0.mk (below_drew1 HB.out)
          have q39 : (1 : Int) ≤ ((l2.length : Int) : Int) := oD
          obtain ⟨iW, hiW, _, hsz39, _⟩ := info_parts info3
          have hroom39 : l2.length ≤ c2 := HC2.out
          have hC39 : Kd.C (Kd.int .i64) _ (some adE) l2.length l2 := (Kd.C_kept_now HR2.out HK.out)
          have hcut39 := cut_from (P := Try.prog) 22 3 .i64 Try.underlying22 hiW 1 hsz39 (some adE) l2.length c2 1 (by omega) q39
          have hr39 := Kd.C_drop (m := (1 : Int).toNat) (c := c2) hC39 (by omega) hroom39
          obtain ⟨A39, hA39⟩ : ∃ A1, A1 = (if c2 = (1 : Int).toNat then (some adE) else ((some adE) : Option Addr).map (·.add ((1 : Int).toNat * 1))) := ⟨_, rfl⟩
          obtain ⟨c39, hc39⟩ : ∃ c1, c1 = c2 - (1 : Int).toNat := ⟨_, rfl⟩
          have hy39 : yF.length = l2.length - (1 : Int).toNat := (by rw [NyF.out, List.length_drop] <;> omega)
          rw [show (l2).drop (1 : Int).toNat = yF from NyF.out.symm] at hr39
          replace hr39 : Kd.C (Kd.int .i64) _ A39 yF.length yF := (by rw [hA39]; exact hr39)
          rw [← hy39, ← hA39, ← hc39] at hcut39
          have HRL := Aside0.mk hr39
          have HCL := Aside0.mk (show yF.length ≤ c39 from by rw [hy39, hc39]; exact Nat.sub_le_sub_right hroom39 _)
          clear hr39 hC39 hroom39 hiW hsz39 hc39
          have KY39 := Aside0.mk hy39
          have KA39 := Aside0.mk hA39
          clear hy39 hA39
          have KL39 := Aside0.mk (show 1 ≤ l2.length from by omega)
          replace q39 := eq_true q39
          refine start_ (n := 5) (S := fun w' => w'.cell? ⟨gbB, 0, none⟩ = some (.int .i64 a0_0) ∧ w'.cell? ⟨gbB, 1, none⟩ = some (.slice A0_1 l0_1.length c0_1) ∧ w'.cell? ⟨gbA, 0, none⟩ = some (.int .i64 a1_0) ∧ w'.cell? ⟨gbA, 1, none⟩ = some (.int .i64 a1_1) ∧ w'.cell? ⟨gbA, 2, none⟩ = some (.int .i64 a1_2) ∧ w'.cell? ⟨gbA, 3, none⟩ = some (.slice (some ⟨go21, 0, none⟩) xD_1.length co15)) (ds := []) #[false, false, false, false, false] kr rfl rfl ⟨(blk_cell BKB.out 0).trans rfl, (blk_cell BKB.out 1).trans rfl, (blk_cell BKA.out 0).trans rfl, (blk_cell BKA.out 1).trans rfl, (blk_cell BKA.out 2).trans rfl, (blk_cell BKA.out 3).trans rfl⟩ (fun hHeld => ?_)
          generalize w37.drew = w38 at HO_D BKB BKA HK HB HQ36 HRL hHeld ⊢
          refine pA 2 30 kr ?_
          refine pA 3 31 kr ?_
          refine tA6 0 28 kr hHeld ?_
          refine tA6 1 29 kr hHeld ?_
          refine one_ (i := 4) (N := some 32) #[true, true, true, true, true] rfl rfl kr (by decide) (fun K hK => ?_)
          refine goes_ Try.func34 kr rfl #[.agg #[.int .i64 a0_0, .slice A0_1 l0_1.length c0_1], .agg #[.int .i64 a1_0, .int .i64 a1_1, .int .i64 a1_2, .slice (some ⟨go21, 0, none⟩) xD_1.length co15], .slice A39 yF.length c39] (by rfl) rfl rfl p5 ?_
          with_reducible refine (ih k1 (by have := HK1.out; omega) a0_0 _ _ l0_1 a1_0 a1_1 a1_2 (fun k_ => some k_ = (.slice (some ⟨go21, 0, none⟩) xD_1.length co15 : Value).ownBlock) (.slice (some ⟨go21, 0, none⟩) xD_1.length co15) yG _ _ yF false tT w0 _ ?side1 ?side2 ?side3 ?side4 ?side5 ?side6 A23.out).mono ?_
          (case side1 => repeat (first | (with_reducible first | exact HB.out | apply below_alloc | apply pw_below_drewN | apply below_drew1 | refine below_set ?_ GEB.out | refine below_set ?_ GEA.out) | exact HB.out))
          (case side2 => exact Kd.C_kept_call HR0_1.out pH (fun k_ hs_ => (fun e_ => (HO_D.out.1 k_ e_.symm)) hs_))
          (case side3 => exact HC0_1.out)
          (case side4 => exact Kd.R_tight rfl HO_D.out)
          (case side5 => exact fun W_ hW_ => by have h_ := Kd.C_drop (m := 1) (c := c2) ((Kd.C_kept_call HR2.out pH (fun k_ hs_ => (fun e_ => (HO_D.out.1 k_ e_.symm)) hs_)) W_ hW_) KL39.out HC2.out; rw [show (l2).drop 1 = yF from NyF.out.symm] at h_; rw [KA39.out]; exact h_)
          (case side6 => exact HCL.out)
          rintro e w40 ⟨rfl, hy0, hb, hkp⟩
          refine ⟨_, rfl, ?_⟩
          replace BKB := Aside0.mk (blk_kept (pK BKB.out) hkp (fun hs_ => (fun e_ => (Kd.R_ne HO_D.out BKB.out (by decide)) e_) hs_))
          replace BKA := Aside0.mk (blk_kept (pK BKA.out) hkp (fun hs_ => (fun e_ => (Kd.R_ne HO_D.out BKA.out (by decide)) e_) hs_))
          replace HK := Aside0.mk (Kept.then_ (S := (fun k_ => P1_3_ k_)) pH hkp (fun k_ hs_ => (fun e_ => (HO_D.out.1 k_ e_.symm)) hs_))
          replace HO_D := Aside0.mk (Kd.R_reok rfl hy0 (fun k_ e_ => HO_D.out.1 k_ e_))
          replace HB := Aside0.mk (hb)
          (try clear hb)
          (try clear hkp)
          (try clear hy0)
          refine hK.out _ _ ⟨(blk_cell BKB.out 0).trans rfl, (blk_cell BKB.out 1).trans rfl, (blk_cell BKA.out 0).trans rfl, (blk_cell BKA.out 1).trans rfl, (blk_cell BKA.out 2).trans rfl, (blk_cell BKA.out 3).trans rfl⟩ (fun hHeld => ?_)
          clear hK K
          refine norm_ (a' := ?_) ?_ ?_
          rotate_left
          ·show Act.put _ (some 32) _ = _
           simp only [Act.put, List.setIfInBounds_toArray, List.set_cons_zero, List.set_cons_succ, i64_w, i32_w]
           rfl
          refine done_ kr ?_
          try go_wp2
          (try simp only [← hlD_1])
          go_roundg k1
          case measure => have := HK1.out; omega
          case rel => exact ⟨(wrap64 (x7_1 + 1)), (tT), p7, H', ⟨by have := HK1.out; omega⟩, ⟨by (try simp only [hlD_1]); (with_reducible repeat (first | apply Kd.R_alloc | apply Kd.R_drewN | apply Kd.R_drew)); exact HO_D.out⟩, ⟨by (try simp only [hlD_1]); (with_reducible repeat (first | refine blk_drewN ?_ _ | refine blk_drew ?_ | refine blk_alloc ?_ _)); exact BKB.out⟩, ⟨by (try simp only [hlD_1]); (with_reducible repeat (first | refine blk_drewN ?_ _ | refine blk_drew ?_ | refine blk_alloc ?_ _)); exact BKA.out⟩, ⟨pH⟩, ⟨pB⟩⟩
        ·rw [if_neg c22] at H
         exact absurd H (by simp)
       ·rw [if_neg c20] at H
        exact absurd H (by simp)
      ·rw [if_neg c19] at H
       exact absurd H (by simp)
     ·rw [if_neg c18] at H
      exact absurd H (by simp)
    ·rw [if_neg c17] at H
     have c17b0 : decide (x7_1 < a1_0) = false := decide_eq_false c17
     clear c17
     simp only [Option.some.injEq, Prod.mk.injEq] at H
     obtain ⟨rfl, rfl⟩ := H
     have hnb41 := NBA_B.out
     have hnc41 := NBB_A.out
     obtain ⟨hcz42_0, hcz42_1, hcz42_2, hcz42_3, hfz42_0, hfz42_1, hfz42_2, hfz42_3⟩ := bc4 BKA.out
     go_wp2
     go_ret
     exact ⟨p8, (by first | exact (pR HO_D.out) | (simp only [hlD_1]; exact (pR HO_D.out))), pB, pH⟩
end Go.Proofs.Ytbhckhblonkajaa.Q
