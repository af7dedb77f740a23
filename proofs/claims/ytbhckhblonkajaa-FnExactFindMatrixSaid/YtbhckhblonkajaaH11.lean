/- Part of a proof: contracts and lemmas that the row's text uses; joined by a program. -/
import Derived.Test.YtbhckhblonkajaaH04
import Derived.Test.YtbhckhblonkajaaH07
import Derived.Test.YtbhckhblonkajaaH10
set_option linter.unusedVariables false
set_option linter.unusedSimpArgs false
namespace Go.Proofs.Ytbhckhblonkajaa.Q
open Go.RowKit Go.Proofs.YtbhckhblonkajaaW.PrintWords Go.Proofs.YtbhckhblonkajaaW.PrintLast Go.Proofs.YtbhckhblonkajaaW.PrintMore
attribute [local go_sem] max2_int min2_int max_two min_two max_three min_three max_four min_four
def impl_FromMatrix.f (k : Nat) (a0_0 : Int) (a0_1 : Int) (a0_2 : Int) (l0_3 : List Int) : Option (Int × List Int) := (impl_IsMatrix.f k a0_0 a0_1 a0_2 l0_3).bind fun tB => (if tB = true then ((impl_FromMatrix_sets.f k a0_2 a0_0 a0_1 a0_2 l0_3).bind fun tC => ((impl_fromIndependent.f k a0_2 tC).bind fun btA => (some (btA.1, btA.2.1)))) else (some (0, ([] : List Int))))
def impl_FromMatrix.T3 : Bool × List (List Nat × List Nat) := (true, [([], []), ([0], [0]), ([], []), ([2], [2]), ([], []), ([3, 4], [3, 4]), ([1, 5, 5], [1, 5]), ([6], [6]), ([7], [7]), ([7], [7]), ([], []), ([10, 8, 6, 0, 1, 2, 3, 4, 5, 6, 7, 8, 10], [8, 10]), ([9, 11, 0, 1, 2, 3, 4, 5, 6, 7, 8, 9, 10, 11], [9])])
def impl_FromMatrix.B3 : List Nat := [0, 1, 0, 4, 0, 28, 63, 127, 255, 255, 0, 1535, 4095]
theorem impl_FromMatrix.tab3 : rtab .any (opsOf Try.f50 3) = impl_FromMatrix.T3 := by kernel_rfl
theorem impl_FromMatrix.bits3 : waitsOk impl_FromMatrix.T3.2 impl_FromMatrix.B3 = true := by kernel_rfl
set_option maxHeartbeats 8000000 in
set_option maxRecDepth 100000 in
theorem impl_FromMatrix.calls (k : Nat) (a0_0 : Int) (a0_1 : Int) (a0_2 : Int) (A0_3 : Option Addr) (c0_3 : Nat) (l0_3 : List Int) (r1 : Int) (r2 : List Int) (w : World) (hr0_3 : Kd.C (Kd.int .i64) w A0_3 l0_3.length l0_3) (hc0_3 : l0_3.length ≤ c0_3) (h : impl_FromMatrix.f k a0_0 a0_1 a0_2 l0_3 = some (r1, r2)) :
  Calls Try.prog 50 #[.agg #[.int .i64 a0_0, .int .i64 a0_1, .int .i64 a0_2, .slice A0_3 l0_3.length c0_3]] w fun e w' => ∃ v1_ : Value, e = .returned (.agg #[.int .i64 r1, v1_]) ∧ Kd.R (Kd.int .i64) 3 w' w.heap.size (fun _ => True) v1_ r2 ∧ Below w.heap.size w w' := by
 have hu32 := Try.underlying32
 have hu27 := Try.underlying27
 have HR0_3 := Aside0.mk hr0_3
 have HC0_3 := Aside0.mk hc0_3
 clear hr0_3 hc0_3
 have HB := Aside0.mk (Below.refl w.heap.size w)
 have H : ((impl_IsMatrix.f k a0_0 a0_1 a0_2 l0_3).bind fun tP => (if tP = true then ((impl_FromMatrix_sets.f k a0_2 a0_0 a0_1 a0_2 l0_3).bind fun tF => ((impl_fromIndependent.f k a0_2 tF).bind fun btG => (some (btG.1, btG.2.1)))) else (some (0, ([] : List Int))))) = some (r1, r2) := h
 clear h
 replace H := bS H
 obtain ⟨tP, A2, H⟩ := H
 by_cases c3 : tP = true
 ·subst c3
  replace H := iP H
  replace H := bS H
  obtain ⟨tF, A4, H⟩ := H
  replace H := Option.bind_eq_some_iff.mp H
  obtain ⟨⟨tG, tJ, tM⟩, A50, H⟩ := H
  replace H : (some (tG, tJ)) = some (r1, r2) := H
  have A5 := Aside0.mk A50
  clear A50
  simp only [Option.some.injEq, Prod.mk.injEq] at H
  obtain ⟨rfl, rfl⟩ := H
  go_enter Try.func50, Try.ntmps50
  try go_wp2_with (first | (refine bE 1 #[.int .i64 a0_0, .int .i64 a0_1, .int .i64 a0_2, .slice A0_3 l0_3.length c0_3] 32 ?_; intro gbA hg w6 hbox hb; have BKA := Aside0.mk hbox; have GWA := aZ w hg; have GEA := aZ w hg; replace HB := aH hb; clear hb hbox hg) | (refine bE 2 #[.int .i64 0, .slice none 0 0] 27 ?_; intro gbD hg w7 hbox hb; have BKD := Aside0.mk hbox; have GWD := aZ w hg; have GED := aZ w hg; replace HB := aH hb; have NBA_D := aL BKA hg; have NBD_A := aG BKA hg; replace BKA := aB BKA hb; clear hb hbox hg; have hnb8 := NBA_D.out; have hnc8 := NBD_A.out; obtain ⟨hcz9_0, hcz9_1, hcz9_2, hcz9_3, hfz9_0, hfz9_1, hfz9_2, hfz9_3⟩ := bc4 BKA.out) | ((with_reducible refine gate_callee (f := 66) rfl ?_); refine goesL_ (some 6) rfl rfl Try.func66 kr rfl #[.agg #[.int .i64 a0_0, .int .i64 a0_1, .int .i64 a0_2, .slice A0_3 l0_3.length c0_3]] rfl p5 ?_; (with_reducible refine (impl_IsMatrix.calls k a0_0 a0_1 a0_2 _ _ l0_3 true _ ?side1 ?side2 A2.out).mono ?_); (case side1 => exact pC (Kd.C_below HR0_3.out HB.out)); (case side2 => exact HC0_3.out); rintro e w10 ⟨rfl, hb⟩; refine ⟨_, rfl, ?_⟩; replace BKA := aB BKA hb; replace BKD := aB BKD hb; replace HB := aH hb; (try clear hb)))
  replace BKA := Aside0.mk (blk_drew BKA.out)
  replace BKD := Aside0.mk (blk_drew BKD.out)
  replace HB := Aside0.mk (below_drew1 HB.out)
  refine start_ (n := 13) (S := fun w' => w'.cell? ⟨gbA, 0, none⟩ = some (.int .i64 a0_0) ∧ w'.cell? ⟨gbA, 1, none⟩ = some (.int .i64 a0_1) ∧ w'.cell? ⟨gbA, 2, none⟩ = some (.int .i64 a0_2) ∧ w'.cell? ⟨gbA, 3, none⟩ = some (.slice A0_3 l0_3.length c0_3)) (ds := []) #[false, false, false, false, false, false, false, false, false, false, false, false, false] kr rfl rfl ⟨(blk_cell BKA.out 0).trans rfl, (blk_cell BKA.out 1).trans rfl, (blk_cell BKA.out 2).trans rfl, (blk_cell BKA.out 3).trans rfl⟩ (fun hHeld => ?_); refine with_tabW impl_FromMatrix.tab3 impl_FromMatrix.bits3 (fun HT_ HW_ => ?_)
  generalize w10.drew = w11 at BKA BKD HB hHeld ⊢
  refine pA 0 10 (any_of HT_.out kr) ?_
  refine pA 2 12 (any_of HT_.out kr) ?_
  refine pA 4 14 (any_of HT_.out kr) ?_
  refine tA4 1 11 (take_ofW HT_.out HW_.out kr) hHeld ?_
  refine tA4 3 13 (take_ofW HT_.out HW_.out kr) hHeld ?_
  refine join_ (σ := Value × Value × Nat) 2 #[true, true, true, true, true, true, true, true, true, true, true, false, false] (fun s_ => [(15, s_.1), (16, .tuple #[.agg #[.int .i64 tG, s_.2.1], .bool tM]), (3, .pointer (some ⟨s_.2.2, 0, none⟩)), (9, .tuple #[.agg #[.int .i64 tG, s_.2.1], .bool tM]), (17, .agg #[.int .i64 tG, s_.2.1]), (18, .bool tM)]) (fun s_ w' => (w'.cell? ⟨gbA, 0, none⟩ = some (.int .i64 a0_0) ∧ w'.cell? ⟨gbA, 1, none⟩ = some (.int .i64 a0_1) ∧ w'.cell? ⟨gbA, 2, none⟩ = some (.int .i64 a0_2) ∧ w'.cell? ⟨gbA, 3, none⟩ = some (.slice A0_3 l0_3.length c0_3)) ∧ (Kd.R (Kd.int .i64) 3 w' w.heap.size (fun k_ => some k_ ≠ (s_.2.1 : Value).ownBlock) s_.1 tF) ∧ (Kd.R (Kd.int .i64) 3 w' w.heap.size (fun k_ => some k_ ≠ (s_.1 : Value).ownBlock) s_.2.1 tJ) ∧ (w'.heap[gbA]? = some (.cells #[.int .i64 a0_0, .int .i64 a0_1, .int .i64 a0_2, .slice A0_3 l0_3.length c0_3] 32 (0, 0))) ∧ (w'.heap[gbD]? = some (.cells #[.int .i64 0, .slice none 0 0] 27 (0, 0))) ∧ (w'.heap[s_.2.2]? = some (.cells #[.int .i64 0, .slice none 0 0] 27 (0, 0))) ∧ (w.heap.size ≤ s_.2.2) ∧ (w.heap.size ≤ s_.2.2) ∧ (gbA ≠ s_.2.2) ∧ (s_.2.2 ≠ gbA) ∧ (gbD ≠ s_.2.2) ∧ (s_.2.2 ≠ gbD) ∧ (Below w.heap.size w w')) ?_ ?_
  rotate_left
  ·intro hCont
   refine two_ (i := 5) (j := 10) (Ni := some 15) (Nj := some 3) #[true, true, true, true, true, true, false, false, false, false, false, false, false] #[true, true, true, true, true, false, false, false, false, false, true, false, false] rfl rfl rfl rfl (two_of HT_.out kr) (by decide) (by decide) (fun K hK => ?_) (fun K hK => ?_)
   ·skip
    refine goes_ Try.func68 kr rfl #[.int .i64 a0_2, .func (.func 69) #[] #[.pointer (some ⟨gbA, 0, none⟩)]] (by rfl) rfl rfl p5 ?_
    with_reducible refine (impl_FromMatrix_sets.calls k a0_2 a0_0 a0_1 a0_2 _ _ l0_3 tF _ ?side1 ?side2 A4.out gbA (by repeat (first | exact BKA.out | (with_reducible refine blk_drewN ?_ _) | (with_reducible refine blk_drew ?_) | (with_reducible refine blk_alloc ?_ _) | exact blk_put BKA.out 0 _ rfl))).mono ?_
    (case side1 => exact pC (Kd.C_below HR0_3.out HB.out))
    (case side2 => exact HC0_3.out)
    rintro e w12 ⟨vO, rfl, ho0, hb⟩
    refine ⟨_, rfl, ?_⟩
    have HOE := Aside0.mk (Kd.R_lower ho0 (below_size pB))
    replace BKA := aB BKA hb
    replace BKD := aB BKD hb
    replace HB := aH hb
    (try clear hb)
    (try clear hb2)
    (try clear hk)
    (try clear hi)
    (try clear ho0)
    obtain ⟨Ao13, co13, eo13⟩ := Kd.R_slice HOE.out
    (first | subst eo13 | (injection eo13 with f1_ f2_ f3_; have f4_ := f1_.symm; have f5_ := f3_.symm; clear f1_ f2_ f3_; subst f4_; subst f5_))
    refine hK.out _ _ ⟨(blk_cell BKA.out 0).trans rfl, (blk_cell BKA.out 1).trans rfl, (blk_cell BKA.out 2).trans rfl, (blk_cell BKA.out 3).trans rfl⟩ (fun hHeld => ?_)
    clear hK K
    refine norm_ (a' := ?_) ?_ ?_
    rotate_left
    ·show Act.put _ (some 15) _ = _
     simp only [Act.put, List.setIfInBounds_toArray, List.set_cons_zero, List.set_cons_succ, i64_w, i32_w]
     rfl
    refine two_ (i := 6) (j := 10) (Ni := some 16) (Nj := some 3) #[true, true, true, true, true, true, true, false, false, false, false, false, false] #[true, true, true, true, true, true, false, false, false, false, true, false, false] rfl rfl rfl rfl (two_of HT_.out kr) (by decide) (by decide) (fun K hK => ?_) (fun K hK => ?_)
    ·skip
     refine goes_ Try.func67 kr rfl #[.int .i64 a0_2, .slice Ao13 tF.length co13] (by rfl) rfl rfl p5 ?_
     with_reducible refine (impl_fromIndependent.calls k a0_2 _ _ tF tG tJ tM _ ?side1 ?side2 A5.out).mono ?_
     (case side1 => repeat (first | exact (Kd.R_reads' HOE.out).2.2 | (with_reducible refine Kd.C_alloc ?_ _) | (with_reducible refine Kd.C_drewN ?_ _) | (with_reducible refine Kd.C_drew ?_)))
     (case side2 => exact (Kd.R_reads' HOE.out).2.1)
     rintro e w14 ⟨vL, rfl, ho0, hb⟩
     refine ⟨_, rfl, ?_⟩
     have HOI := Aside0.mk (Kd.R_lower (Kd.R_new' ho0 (Kd.R_lt (pR HOE.out))) (below_size pB))
     replace HOE := Aside0.mk (Kd.R_elder' (pR HOE.out) (Kd.R_base ho0) hb)
     replace BKA := aB BKA hb
     replace BKD := aB BKD hb
     replace HB := aH hb
     (try clear hb)
     (try clear hb2)
     (try clear hk)
     (try clear hi)
     (try clear ho0)
     refine hK.out _ _ ⟨(blk_cell BKA.out 0).trans rfl, (blk_cell BKA.out 1).trans rfl, (blk_cell BKA.out 2).trans rfl, (blk_cell BKA.out 3).trans rfl⟩ (fun hHeld => ?_)
     clear hK K
     refine norm_ (a' := ?_) ?_ ?_
     rotate_left
     ·show Act.put _ (some 16) _ = _
      simp only [Act.put, List.setIfInBounds_toArray, List.set_cons_zero, List.set_cons_succ, i64_w, i32_w]
      rfl
     refine pA 7 9 (any_of HT_.out kr) ?_
     refine pA 8 17 (any_of HT_.out kr) ?_
     refine pA 9 18 (any_of HT_.out kr) ?_
     refine one_ (i := 10) (N := some 3) #[true, true, true, true, true, true, true, true, true, true, true, false, false] rfl rfl (one_of HT_.out kr) (by decide) (fun K hK => ?_)
     refine box_step ?hg (N := 3) ?hd (cs := #[.int .i64 0, .slice none 0 0]) (t := 27) ?hr ?_; (case hd => rfl); (case hg => rfl); (case hr => first | (go_simp; done) | (go_simp; rfl))
     intro gbB hg w15 hbox hb
     replace HOE := aR HOE hb
     replace HOI := aR HOI hb
     have BKB := Aside0.mk hbox
     have GWB := aZ w hg
     have GEB := aZ w hg
     replace HB := aH hb
     have NBA_B := aL BKA hg
     have NBB_A := aG BKA hg
     replace BKA := aB BKA hb
     have NBD_B := aL BKD hg
     have NBB_D := aG BKD hg
     replace BKD := aB BKD hb
     clear hb hbox hg
     refine hK.out _ _ ⟨(blk_cell BKA.out 0).trans rfl, (blk_cell BKA.out 1).trans rfl, (blk_cell BKA.out 2).trans rfl, (blk_cell BKA.out 3).trans rfl⟩ (fun hHeld => ?_)
     clear hK K
     refine norm_ (a' := ?_) ?_ ?_
     rotate_left
     ·show Act.put _ (some 3) _ = _
      simp only [Act.put, List.setIfInBounds_toArray, List.set_cons_zero, List.set_cons_succ, i64_w, i32_w]
      rfl
     exact norm_ (by simp only [putAll, Act.put, List.setIfInBounds_toArray, List.set_cons_zero, List.set_cons_succ]) (hCont (.slice Ao13 tF.length co13, vL, gbB) _ ⟨hHeld, (by (with_reducible repeat (first | apply Kd.R_alloc | apply Kd.R_drewN | apply Kd.R_drew)); exact Kd.R_mono HOE.out (fun _ hk => hk.2)), (by (with_reducible repeat (first | apply Kd.R_alloc | apply Kd.R_drewN | apply Kd.R_drew)); exact Kd.R_mono HOI.out (fun _ hk => hk.2)), (pK BKA.out), (pK BKD.out), (pK BKB.out), GWB.out, GEB.out, NBA_B.out, NBB_A.out, NBD_B.out, NBB_D.out, pB⟩)
    ·skip
     refine box_step ?hg (N := 3) ?hd (cs := #[.int .i64 0, .slice none 0 0]) (t := 27) ?hr ?_; (case hd => rfl); (case hg => rfl); (case hr => first | (go_simp; done) | (go_simp; rfl))
     intro gbB hg w13 hbox hb
     replace HOE := aR HOE hb
     have BKB := Aside0.mk hbox
     have GWB := aZ w hg
     have GEB := aZ w hg
     replace HB := aH hb
     have NBA_B := aL BKA hg
     have NBB_A := aG BKA hg
     replace BKA := aB BKA hb
     have NBD_B := aL BKD hg
     have NBB_D := aG BKD hg
     replace BKD := aB BKD hb
     clear hb hbox hg
     obtain ⟨Ao14, co14, eo14⟩ := Kd.R_slice HOE.out
     (first | subst eo14 | (injection eo14 with f1_ f2_ f3_; have f4_ := f1_.symm; have f5_ := f3_.symm; clear f1_ f2_ f3_; subst f4_; subst f5_))
     refine hK.out _ _ ⟨(blk_cell BKA.out 0).trans rfl, (blk_cell BKA.out 1).trans rfl, (blk_cell BKA.out 2).trans rfl, (blk_cell BKA.out 3).trans rfl⟩ (fun hHeld => ?_)
     clear hK K
     refine norm_ (a' := ?_) ?_ ?_
     rotate_left
     ·show Act.put _ (some 3) _ = _
      simp only [Act.put, List.setIfInBounds_toArray, List.set_cons_zero, List.set_cons_succ, i64_w, i32_w]
      rfl
     refine one_ (i := 6) (N := some 16) #[true, true, true, true, true, true, true, false, false, false, true, false, false] rfl rfl (one_of HT_.out kr) (by decide) (fun K hK => ?_)
     refine goes_ Try.func67 kr rfl #[.int .i64 a0_2, .slice Ao14 tF.length co14] (by rfl) rfl rfl p5 ?_
     with_reducible refine (impl_fromIndependent.calls k a0_2 _ _ tF tG tJ tM _ ?side1 ?side2 A5.out).mono ?_
     (case side1 => repeat (first | exact (Kd.R_reads' HOE.out).2.2 | (with_reducible refine Kd.C_alloc ?_ _) | (with_reducible refine Kd.C_drewN ?_ _) | (with_reducible refine Kd.C_drew ?_)))
     (case side2 => exact (Kd.R_reads' HOE.out).2.1)
     rintro e w15 ⟨vL, rfl, ho0, hb⟩
     refine ⟨_, rfl, ?_⟩
     have HOI := Aside0.mk (Kd.R_lower (Kd.R_new' ho0 (Kd.R_lt (pR HOE.out))) (below_size pB))
     replace HOE := Aside0.mk (Kd.R_elder' (pR HOE.out) (Kd.R_base ho0) hb)
     replace BKA := aB BKA hb
     replace BKD := aB BKD hb
     replace BKB := aB BKB hb
     replace HB := aH hb
     (try clear hb)
     (try clear hb2)
     (try clear hk)
     (try clear hi)
     (try clear ho0)
     refine hK.out _ _ ⟨(blk_cell BKA.out 0).trans rfl, (blk_cell BKA.out 1).trans rfl, (blk_cell BKA.out 2).trans rfl, (blk_cell BKA.out 3).trans rfl⟩ (fun hHeld => ?_)
     clear hK K
     refine norm_ (a' := ?_) ?_ ?_
     rotate_left
     ·show Act.put _ (some 16) _ = _
      simp only [Act.put, List.setIfInBounds_toArray, List.set_cons_zero, List.set_cons_succ, i64_w, i32_w]
      rfl
     refine pA 7 9 (any_of HT_.out kr) ?_
     refine pA 8 17 (any_of HT_.out kr) ?_
     refine pA 9 18 (any_of HT_.out kr) ?_
     exact norm_ (by simp only [putAll, Act.put, List.setIfInBounds_toArray, List.set_cons_zero, List.set_cons_succ]) (hCont (.slice Ao14 tF.length co14, vL, gbB) _ ⟨hHeld, (by (with_reducible repeat (first | apply Kd.R_alloc | apply Kd.R_drewN | apply Kd.R_drew)); exact Kd.R_mono HOE.out (fun _ hk => hk.2)), (by (with_reducible repeat (first | apply Kd.R_alloc | apply Kd.R_drewN | apply Kd.R_drew)); exact Kd.R_mono HOI.out (fun _ hk => hk.2)), (pK BKA.out), (pK BKD.out), (pK BKB.out), GWB.out, GEB.out, NBA_B.out, NBB_A.out, NBD_B.out, NBB_D.out, pB⟩)
   ·skip
    refine box_step ?hg (N := 3) ?hd (cs := #[.int .i64 0, .slice none 0 0]) (t := 27) ?hr ?_; (case hd => rfl); (case hg => rfl); (case hr => first | (go_simp; done) | (go_simp; rfl))
    intro gbB hg w12 hbox hb
    have BKB := Aside0.mk hbox
    have GWB := aZ w hg
    have GEB := aZ w hg
    replace HB := aH hb
    have NBA_B := aL BKA hg
    have NBB_A := aG BKA hg
    replace BKA := aB BKA hb
    have NBD_B := aL BKD hg
    have NBB_D := aG BKD hg
    replace BKD := aB BKD hb
    clear hb hbox hg
    refine hK.out _ _ ⟨(blk_cell BKA.out 0).trans rfl, (blk_cell BKA.out 1).trans rfl, (blk_cell BKA.out 2).trans rfl, (blk_cell BKA.out 3).trans rfl⟩ (fun hHeld => ?_)
    clear hK K
    refine norm_ (a' := ?_) ?_ ?_
    rotate_left
    ·show Act.put _ (some 3) _ = _
     simp only [Act.put, List.setIfInBounds_toArray, List.set_cons_zero, List.set_cons_succ, i64_w, i32_w]
     rfl
    refine one_ (i := 5) (N := some 15) #[true, true, true, true, true, true, false, false, false, false, true, false, false] rfl rfl (one_of HT_.out kr) (by decide) (fun K hK => ?_)
    refine goes_ Try.func68 kr rfl #[.int .i64 a0_2, .func (.func 69) #[] #[.pointer (some ⟨gbA, 0, none⟩)]] (by rfl) rfl rfl p5 ?_
    with_reducible refine (impl_FromMatrix_sets.calls k a0_2 a0_0 a0_1 a0_2 _ _ l0_3 tF _ ?side1 ?side2 A4.out gbA (by repeat (first | exact BKA.out | (with_reducible refine blk_drewN ?_ _) | (with_reducible refine blk_drew ?_) | (with_reducible refine blk_alloc ?_ _) | exact blk_put BKA.out 0 _ rfl))).mono ?_
    (case side1 => exact pC (Kd.C_below HR0_3.out HB.out))
    (case side2 => exact HC0_3.out)
    rintro e w13 ⟨vO, rfl, ho0, hb⟩
    refine ⟨_, rfl, ?_⟩
    have HOE := Aside0.mk (Kd.R_lower ho0 (below_size pB))
    replace BKA := aB BKA hb
    replace BKD := aB BKD hb
    replace BKB := aB BKB hb
    replace HB := aH hb
    (try clear hb)
    (try clear hb2)
    (try clear hk)
    (try clear hi)
    (try clear ho0)
    obtain ⟨Ao14, co14, eo14⟩ := Kd.R_slice HOE.out
    (first | subst eo14 | (injection eo14 with f1_ f2_ f3_; have f4_ := f1_.symm; have f5_ := f3_.symm; clear f1_ f2_ f3_; subst f4_; subst f5_))
    refine hK.out _ _ ⟨(blk_cell BKA.out 0).trans rfl, (blk_cell BKA.out 1).trans rfl, (blk_cell BKA.out 2).trans rfl, (blk_cell BKA.out 3).trans rfl⟩ (fun hHeld => ?_)
    clear hK K
    refine norm_ (a' := ?_) ?_ ?_
    rotate_left
    ·show Act.put _ (some 15) _ = _
     simp only [Act.put, List.setIfInBounds_toArray, List.set_cons_zero, List.set_cons_succ, i64_w, i32_w]
     rfl
    refine one_ (i := 6) (N := some 16) #[true, true, true, true, true, true, true, false, false, false, true, false, false] rfl rfl (one_of HT_.out kr) (by decide) (fun K hK => ?_)
    refine goes_ Try.func67 kr rfl #[.int .i64 a0_2, .slice Ao14 tF.length co14] (by rfl) rfl rfl p5 ?_
    with_reducible refine (impl_fromIndependent.calls k a0_2 _ _ tF tG tJ tM _ ?side1 ?side2 A5.out).mono ?_
    (case side1 => repeat (first | exact (Kd.R_reads' HOE.out).2.2 | (with_reducible refine Kd.C_alloc ?_ _) | (with_reducible refine Kd.C_drewN ?_ _) | (with_reducible refine Kd.C_drew ?_)))
    (case side2 => exact (Kd.R_reads' HOE.out).2.1)
    rintro e w15 ⟨vL, rfl, ho0, hb⟩
    refine ⟨_, rfl, ?_⟩
    have HOI := Aside0.mk (Kd.R_lower (Kd.R_new' ho0 (Kd.R_lt (pR HOE.out))) (below_size pB))
    replace HOE := Aside0.mk (Kd.R_elder' (pR HOE.out) (Kd.R_base ho0) hb)
    replace BKA := aB BKA hb
    replace BKD := aB BKD hb
    replace BKB := aB BKB hb
    replace HB := aH hb
    (try clear hb)
    (try clear hb2)
    (try clear hk)
    (try clear hi)
    (try clear ho0)
    refine hK.out _ _ ⟨(blk_cell BKA.out 0).trans rfl, (blk_cell BKA.out 1).trans rfl, (blk_cell BKA.out 2).trans rfl, (blk_cell BKA.out 3).trans rfl⟩ (fun hHeld => ?_)
    clear hK K
    refine norm_ (a' := ?_) ?_ ?_
    rotate_left
    ·show Act.put _ (some 16) _ = _
     simp only [Act.put, List.setIfInBounds_toArray, List.set_cons_zero, List.set_cons_succ, i64_w, i32_w]
     rfl
    refine pA 7 9 (any_of HT_.out kr) ?_
    refine pA 8 17 (any_of HT_.out kr) ?_
    refine pA 9 18 (any_of HT_.out kr) ?_
    exact norm_ (by simp only [putAll, Act.put, List.setIfInBounds_toArray, List.set_cons_zero, List.set_cons_succ]) (hCont (.slice Ao14 tF.length co14, vL, gbB) _ ⟨hHeld, (by (with_reducible repeat (first | apply Kd.R_alloc | apply Kd.R_drewN | apply Kd.R_drew)); exact Kd.R_mono HOE.out (fun _ hk => hk.2)), (by (with_reducible repeat (first | apply Kd.R_alloc | apply Kd.R_drewN | apply Kd.R_drew)); exact Kd.R_mono HOI.out (fun _ hk => hk.2)), (pK BKA.out), (pK BKD.out), (pK BKB.out), GWB.out, GEB.out, NBA_B.out, NBB_A.out, NBD_B.out, NBB_D.out, pB⟩)
  rintro ⟨vO, vL, gbB⟩ w16 ⟨hS_, h0_, h1_, h2_, h3_, h4_, h5_, h6_, h7_, h8_, h9_, h10_, h11_⟩
  have n0_ : Aside0 (Kd.R (Kd.int .i64) 3 w16 w.heap.size (fun k_ => some k_ ≠ (vL : Value).ownBlock) vO tF) := ⟨h0_⟩
  have n1_ : Aside0 (Kd.R (Kd.int .i64) 3 w16 w.heap.size (fun k_ => some k_ ≠ (vO : Value).ownBlock) vL tJ) := ⟨h1_⟩
  have n2_ : Aside0 (w16.heap[gbA]? = some (.cells #[.int .i64 a0_0, .int .i64 a0_1, .int .i64 a0_2, .slice A0_3 l0_3.length c0_3] 32 (0, 0))) := ⟨h2_⟩
  have n3_ : Aside0 (w16.heap[gbD]? = some (.cells #[.int .i64 0, .slice none 0 0] 27 (0, 0))) := ⟨h3_⟩
  have n4_ : Aside0 (w16.heap[gbB]? = some (.cells #[.int .i64 0, .slice none 0 0] 27 (0, 0))) := ⟨h4_⟩
  have n5_ : Aside0 (w.heap.size ≤ gbB) := ⟨h5_⟩
  have n6_ : Aside0 (w.heap.size ≤ gbB) := ⟨h6_⟩
  have n7_ : Aside0 (gbA ≠ gbB) := ⟨h7_⟩
  have n8_ : Aside0 (gbB ≠ gbA) := ⟨h8_⟩
  have n9_ : Aside0 (gbD ≠ gbB) := ⟨h9_⟩
  have n10_ : Aside0 (gbB ≠ gbD) := ⟨h10_⟩
  have n11_ : Aside0 (Below w.heap.size w w16) := ⟨h11_⟩
  clear BKA
  clear BKD
  clear HB
  clear h0_ h1_ h2_ h3_ h4_ h5_ h6_ h7_ h8_ h9_ h10_ h11_
  have HOE := n0_
  have HOI := n1_
  have BKA := n2_
  have BKD := n3_
  have BKB := n4_
  have GWB := n5_
  have GEB := n6_
  have NBA_B := n7_
  have NBB_A := n8_
  have NBD_B := n9_
  have NBB_D := n10_
  have HB := n11_
  clear n0_ n1_ n2_ n3_ n4_ n5_ n6_ n7_ n8_ n9_ n10_ n11_
  have hHeld : w16.cell? ⟨gbA, 0, none⟩ = some (.int .i64 a0_0) ∧ w16.cell? ⟨gbA, 1, none⟩ = some (.int .i64 a0_1) ∧ w16.cell? ⟨gbA, 2, none⟩ = some (.int .i64 a0_2) ∧ w16.cell? ⟨gbA, 3, none⟩ = some (.slice A0_3 l0_3.length c0_3) := hS_
  obtain ⟨Ao18, co18, eo18⟩ := Kd.R_slice HOI.out
  (first | subst eo18 | (injection eo18 with f1_ f2_ f3_; have f4_ := f1_.symm; have f5_ := f3_.symm; clear f1_ f2_ f3_; subst f4_; subst f5_))
  refine norm_ (a' := ?_) ?_ ?_
  rotate_left
  ·simp only [putAll, Act.put, List.setIfInBounds_toArray, List.set_cons_zero, List.set_cons_succ]
   rfl
  refine one_ (i := 11) (N := none) #[true, true, true, true, true, true, true, true, true, true, true, true, false] rfl rfl (one_of HT_.out kr) (by decide) (fun K hK => ?_)
  have hs17 : w16.cell? ⟨gbB, 0, none⟩ = some (.int .i64 0) := (blk_cell BKB.out 0).trans rfl
  have hfs17 := blk_frozen BKB.out 0
  have hns17_0 := NBA_B.out
  have hns17_1 := NBD_B.out
  have hms17_0 := NBB_A.out
  have hms17_1 := NBB_D.out
  have hs19 : w16.cell? ⟨gbB, 1, none⟩ = some (.slice none 0 0) := (blk_cell BKB.out 1).trans rfl
  have hfs19 := blk_frozen BKB.out 1
  have hns19_0 := NBA_B.out
  have hns19_1 := NBD_B.out
  have hms19_0 := NBB_A.out
  have hms19_1 := NBB_D.out
  refine skip_ (w1 := ?_) (by rfl) rfl ?_ ?_
  rotate_left
  ·go_simp
   rfl
  refine hK.out _ _ ⟨((cell_far (p := ⟨gbB, _, none⟩) NBA_B.out _).trans (((cell_far (p := ⟨gbB, _, none⟩) NBA_B.out _).trans (hHeld.1)))), ((cell_far (p := ⟨gbB, _, none⟩) NBA_B.out _).trans (((cell_far (p := ⟨gbB, _, none⟩) NBA_B.out _).trans (hHeld.2.1)))), ((cell_far (p := ⟨gbB, _, none⟩) NBA_B.out _).trans (((cell_far (p := ⟨gbB, _, none⟩) NBA_B.out _).trans (hHeld.2.2.1)))), ((cell_far (p := ⟨gbB, _, none⟩) NBA_B.out _).trans (((cell_far (p := ⟨gbB, _, none⟩) NBA_B.out _).trans (hHeld.2.2.2))))⟩ (fun hHeld => ?_)
  clear hK K
  refine pA 12 4 (any_of HT_.out kr) ?_
  refine done_ (done_of HT_.out kr) ?_
  have hnb20 := NBB_A.out
  have hnc20 := NBA_B.out
  have hnb21 := NBB_D.out
  have hnc21 := NBD_B.out
  obtain ⟨hcz22_0, hcz22_1, hfz22_0, hfz22_1⟩ := bc2 BKB.out
  obtain ⟨hcz23_0, hcz23_1, hfz23_0, hfz23_1⟩ := bc2 BKD.out
  try go_wp2
  refine bodyPost_ret (results_cell_row rfl _ _ gbD 27 #[.int .i64 tG, .slice Ao18 tJ.length co18] (0, 0) _ rfl (by (with_reducible repeat (first | refine blk_drewN ?_ _ | refine blk_drew ?_ | refine blk_alloc ?_ _)); refine blk_put (cs := #[.int .i64 tG, .slice none 0 0]) ?_ 1 _ rfl; (with_reducible repeat (first | refine blk_drewN ?_ _ | refine blk_drew ?_ | refine blk_alloc ?_ _)); refine blk_put (cs := #[.int .i64 0, .slice none 0 0]) ?_ 0 _ rfl; (with_reducible repeat (first | refine blk_drewN ?_ _ | refine blk_drew ?_ | refine blk_alloc ?_ _)); refine blk_far ?_ NBD_B.out _; (with_reducible repeat (first | refine blk_drewN ?_ _ | refine blk_drew ?_ | refine blk_alloc ?_ _)); refine blk_far ?_ NBD_B.out _; exact pK BKD.out) Try.underlying27 rfl kr) rfl ?_
  exact ⟨_, p8, by (with_reducible repeat (first | apply Kd.R_alloc | apply Kd.R_drewN | apply Kd.R_drew)); exact Kd.R_mono (Kd.R_far (p := ⟨gbD, 1, none⟩) (Kd.R_far (p := ⟨gbD, 0, none⟩) (Kd.R_far (p := ⟨gbB, 1, none⟩) (Kd.R_far (p := ⟨gbB, 0, none⟩) (Kd.R_types (Kd.R_types HOI.out BKB.out (by decide)) BKD.out (by decide)) (fun _ hk => hk.1.2) (.int .i64 tG)) (fun _ hk => hk.1.2) (.slice Ao18 tJ.length co18)) (fun _ hk => hk.2) (.int .i64 tG)) (fun _ hk => hk.2) (.slice Ao18 tJ.length co18)) (fun _ hk => trivial), pB⟩
 ·replace c3 := Bool.eq_false_iff.mpr c3
  subst c3
  replace H := iN H
  simp only [Option.some.injEq, Prod.mk.injEq] at H
  obtain ⟨rfl, rfl⟩ := H
  go_enter Try.func50, Try.ntmps50
  go_wp2_with (first | (refine bE 1 #[.int .i64 a0_0, .int .i64 a0_1, .int .i64 a0_2, .slice A0_3 l0_3.length c0_3] 32 ?_; intro gbA hg w24 hbox hb; have BKA := Aside0.mk hbox; have GWA := aZ w hg; have GEA := aZ w hg; replace HB := aH hb; clear hb hbox hg) | (refine bE 2 #[.int .i64 0, .slice none 0 0] 27 ?_; intro gbD hg w25 hbox hb; have BKD := Aside0.mk hbox; have GWD := aZ w hg; have GED := aZ w hg; replace HB := aH hb; have NBA_D := aL BKA hg; have NBD_A := aG BKA hg; replace BKA := aB BKA hb; clear hb hbox hg; have hnb26 := NBA_D.out; have hnc26 := NBD_A.out; obtain ⟨hcz27_0, hcz27_1, hcz27_2, hcz27_3, hfz27_0, hfz27_1, hfz27_2, hfz27_3⟩ := bc4 BKA.out) | ((with_reducible refine gate_callee (f := 66) rfl ?_); refine goesL_ (some 6) rfl rfl Try.func66 kr rfl #[.agg #[.int .i64 a0_0, .int .i64 a0_1, .int .i64 a0_2, .slice A0_3 l0_3.length c0_3]] rfl p5 ?_; (with_reducible refine (impl_IsMatrix.calls k a0_0 a0_1 a0_2 _ _ l0_3 false _ ?side1 ?side2 A2.out).mono ?_); (case side1 => exact pC (Kd.C_below HR0_3.out HB.out)); (case side2 => exact HC0_3.out); rintro e w28 ⟨rfl, hb⟩; refine ⟨_, rfl, ?_⟩; replace BKA := aB BKA hb; replace BKD := aB BKD hb; replace HB := aH hb; (try clear hb); obtain ⟨hcz29_0, hcz29_1, hfz29_0, hfz29_1⟩ := bc2 BKD.out))
  refine bodyPost_ret (results_cell_row rfl _ _ gbD 27 #[.int .i64 0, .slice none 0 0] (0, 0) _ rfl (by (with_reducible repeat (first | refine blk_drewN ?_ _ | refine blk_drew ?_ | refine blk_alloc ?_ _)); refine blk_put (cs := #[.int .i64 0, .slice none 0 0]) ?_ 1 _ rfl; (with_reducible repeat (first | refine blk_drewN ?_ _ | refine blk_drew ?_ | refine blk_alloc ?_ _)); refine blk_put (cs := #[.int .i64 0, .slice none 0 0]) ?_ 0 _ rfl; exact pK BKD.out) Try.underlying27 rfl kr) rfl ?_
  exact ⟨_, p8, p9, pB⟩
end Go.Proofs.Ytbhckhblonkajaa.Q
