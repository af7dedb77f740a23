/- Part of a proof: contracts and lemmas that the row's text uses; joined by a program. -/
import Derived.Test.YtbhckhblonkajaaC04
import Derived.Test.YtbhckhblonkajaaC07
import Derived.Test.YtbhckhblonkajaaC10
set_option linter.unusedVariables false
set_option linter.unusedSimpArgs false
namespace Go.Proofs.Ytbhckhblonkajaa.Q
open Go.RowKit Go.Proofs.YtbhckhblonkajaaW.PrintWords Go.Proofs.YtbhckhblonkajaaW.PrintLast Go.Proofs.YtbhckhblonkajaaW.PrintMore
attribute [local go_sem] max2_int min2_int max_two min_two max_three min_three max_four min_four
def impl_FromMatrix.f (k : Nat) (a0_0 : Int) (a0_1 : Int) (a0_2 : Int) (l0_3 : List Int) : Option (Int × List Int) := (impl_IsMatrix.f k a0_0 a0_1 a0_2 l0_3).bind fun t335 => (if t335 = true then ((impl_FromMatrix_sets.f k a0_2 a0_0 a0_1 a0_2 l0_3).bind fun t336 => ((impl_fromIndependent.f k a0_2 t336).bind fun bt339 => (some (bt339.1, bt339.2.1)))) else (some (0, ([] : List Int))))
def impl_FromMatrix.T3 : Bool × List (List Nat × List Nat) := (true, [([], []), ([0], [0]), ([], []), ([2], [2]), ([], []), ([3, 4], [3, 4]), ([1, 5, 5], [1, 5]), ([6], [6]), ([7], [7]), ([7], [7]), ([], []), ([10, 8, 6, 0, 1, 2, 3, 4, 5, 6, 7, 8, 10], [8, 10]), ([9, 11, 0, 1, 2, 3, 4, 5, 6, 7, 8, 9, 10, 11], [9])])
def impl_FromMatrix.B3 : List Nat := [0, 1, 0, 4, 0, 28, 63, 127, 255, 255, 0, 1535, 4095]
theorem impl_FromMatrix.tab3 : rtab .any (opsOf Try.f50 3) = impl_FromMatrix.T3 := by kernel_rfl
theorem impl_FromMatrix.bits3 : waitsOk impl_FromMatrix.T3.2 impl_FromMatrix.B3 = true := by kernel_rfl
set_option maxHeartbeats 8000000 in
set_option maxRecDepth 100000 in
theorem impl_FromMatrix.calls (k : Nat) (a0_0 : Int) (a0_1 : Int) (a0_2 : Int) (A0_3 : Option Addr) (c0_3 : Nat) (l0_3 : List Int) (r1 : Int) (r2 : List Int) (w : World) (hr0_3 : Kd.C (Kd.int .i64) w A0_3 l0_3.length l0_3) (hc0_3 : l0_3.length ≤ c0_3) (h : impl_FromMatrix.f k a0_0 a0_1 a0_2 l0_3 = some (r1, r2)) :
  Calls Try.prog 50 #[.agg #[.int .i64 a0_0, .int .i64 a0_1, .int .i64 a0_2, .slice A0_3 l0_3.length c0_3]] w fun e w' => ∃ v1_ : Value, e = .returned (.agg #[.int .i64 r1, v1_]) ∧ Kd.R (Kd.int .i64) 3 w' w.heap.size (fun _ => True) v1_ r2 ∧ Below w.heap.size w w' := by
 have hu32 := Try.underlying32
 have hu27 := Try.underlying27
 have HR0_3 := Aside0.mk hr0_3
 have HC0_3 := Aside0.mk hc0_3
 clear hr0_3 hc0_3
 have HB := Aside0.mk (Below.refl w.heap.size w)
 have H : ((impl_IsMatrix.f k a0_0 a0_1 a0_2 l0_3).bind fun t335 => (if t335 = true then ((impl_FromMatrix_sets.f k a0_2 a0_0 a0_1 a0_2 l0_3).bind fun t336 => ((impl_fromIndependent.f k a0_2 t336).bind fun bt339 => (some (bt339.1, bt339.2.1)))) else (some (0, ([] : List Int))))) = some (r1, r2) := h
 clear h
 replace H := bS H
 obtain ⟨t335, A2, H⟩ := H
 by_cases c3 : t335 = true
 ·subst c3
  replace H := iP H
  replace H := bS H
  obtain ⟨t336, A4, H⟩ := H
  replace H := Option.bind_eq_some_iff.mp H
  obtain ⟨⟨t339, t340, t343⟩, A50, H⟩ := H
  replace H : (some (t339, t340)) = some (r1, r2) := H
  have A5 := Aside0.mk A50
  clear A50
  simp only [Option.some.injEq, Prod.mk.injEq] at H
  obtain ⟨rfl, rfl⟩ := H
  go_enter Try.func50, Try.ntmps50
  try go_wp2_with (first | ((with_reducible refine gate_dst (N := 1) rfl ?_); refine box_event ?hg (N := 1) ?hd (cs := #[.int .i64 a0_0, .int .i64 a0_1, .int .i64 a0_2, .slice A0_3 l0_3.length c0_3]) (t := 32) ?hr ?_; (case hd => rfl); (case hg => rfl); (case hr => first | (go_simp; done) | (go_simp; rfl)); intro gb333 hg w6 hbox hb; have BK333 := Aside0.mk (hbox); have GW333 := Aside0.mk (bZ (w := w) hg); have GE333 := Aside0.mk (bZ (w := w) hg); replace HB := Aside0.mk (below_step pB hb); clear hb hbox hg) | ((with_reducible refine gate_dst (N := 2) rfl ?_); refine box_event ?hg (N := 2) ?hd (cs := #[.int .i64 0, .slice none 0 0]) (t := 27) ?hr ?_; (case hd => rfl); (case hg => rfl); (case hr => first | (go_simp; done) | (go_simp; rfl)); intro gb334 hg w7 hbox hb; have BK334 := Aside0.mk (hbox); have GW334 := Aside0.mk (bZ (w := w) hg); have GE334 := Aside0.mk (bZ (w := w) hg); replace HB := Aside0.mk (below_step pB hb); have NB333_334 := Aside0.mk (bL BK333.out hg); have NB334_333 := Aside0.mk (bG BK333.out hg); replace BK333 := Aside0.mk (bB BK333.out hb); clear hb hbox hg; have hnb8 := NB333_334.out; have hnc8 := NB334_333.out; obtain ⟨hcz9_0, hcz9_1, hcz9_2, hcz9_3, hfz9_0, hfz9_1, hfz9_2, hfz9_3⟩ := bc4 BK333.out) | ((with_reducible refine gate_callee (f := 66) rfl ?_); refine goesL_ (some 6) rfl rfl Try.func66 kr rfl #[.agg #[.int .i64 a0_0, .int .i64 a0_1, .int .i64 a0_2, .slice A0_3 l0_3.length c0_3]] rfl p5 ?_; (with_reducible refine (impl_IsMatrix.calls k a0_0 a0_1 a0_2 _ _ l0_3 true _ ?side1 ?side2 A2.out).mono ?_); (case side1 => exact pC (Kd.C_below HR0_3.out HB.out)); (case side2 => exact HC0_3.out); rintro e w10 ⟨rfl, hb⟩; refine ⟨_, rfl, ?_⟩; replace BK333 := Aside0.mk (bB BK333.out hb); replace BK334 := Aside0.mk (bB BK334.out hb); replace HB := Aside0.mk (below_step pB hb); (try clear hb); (try clear hb2); (try clear hk); (try clear hi)))
  replace BK333 := Aside0.mk (blk_drew BK333.out)
  replace BK334 := Aside0.mk (blk_drew BK334.out)
  replace HB := Aside0.mk (below_drew1 HB.out)
  refine start_ (n := 13) (S := fun w' => w'.cell? ⟨gb333, 0, none⟩ = some (.int .i64 a0_0) ∧ w'.cell? ⟨gb333, 1, none⟩ = some (.int .i64 a0_1) ∧ w'.cell? ⟨gb333, 2, none⟩ = some (.int .i64 a0_2) ∧ w'.cell? ⟨gb333, 3, none⟩ = some (.slice A0_3 l0_3.length c0_3)) (ds := []) #[false, false, false, false, false, false, false, false, false, false, false, false, false] kr rfl rfl ⟨(blk_cell BK333.out 0).trans rfl, (blk_cell BK333.out 1).trans rfl, (blk_cell BK333.out 2).trans rfl, (blk_cell BK333.out 3).trans rfl⟩ (fun hHeld => ?_); refine with_tabW impl_FromMatrix.tab3 impl_FromMatrix.bits3 (fun HT_ HW_ => ?_)
  generalize w10.drew = w11 at BK333 BK334 HB hHeld ⊢
  refine pA 0 10 (any_of HT_.out kr) ?_
  refine pA 2 12 (any_of HT_.out kr) ?_
  refine pA 4 14 (any_of HT_.out kr) ?_
  refine tA4 1 11 (take_ofW HT_.out HW_.out kr) hHeld ?_
  refine tA4 3 13 (take_ofW HT_.out HW_.out kr) hHeld ?_
  refine join_ (σ := Value × Value × Nat) 2 #[true, true, true, true, true, true, true, true, true, true, true, false, false] (fun s_ => [(15, s_.1), (16, .tuple #[.agg #[.int .i64 t339, s_.2.1], .bool t343]), (3, .pointer (some ⟨s_.2.2, 0, none⟩)), (9, .tuple #[.agg #[.int .i64 t339, s_.2.1], .bool t343]), (17, .agg #[.int .i64 t339, s_.2.1]), (18, .bool t343)]) (fun s_ w' => (w'.cell? ⟨gb333, 0, none⟩ = some (.int .i64 a0_0) ∧ w'.cell? ⟨gb333, 1, none⟩ = some (.int .i64 a0_1) ∧ w'.cell? ⟨gb333, 2, none⟩ = some (.int .i64 a0_2) ∧ w'.cell? ⟨gb333, 3, none⟩ = some (.slice A0_3 l0_3.length c0_3)) ∧ (Kd.R (Kd.int .i64) 3 w' w.heap.size (fun k_ => some k_ ≠ (s_.2.1 : Value).ownBlock) s_.1 t336) ∧ (Kd.R (Kd.int .i64) 3 w' w.heap.size (fun k_ => some k_ ≠ (s_.1 : Value).ownBlock) s_.2.1 t340) ∧ (w'.heap[gb333]? = some (.cells #[.int .i64 a0_0, .int .i64 a0_1, .int .i64 a0_2, .slice A0_3 l0_3.length c0_3] 32 (0, 0))) ∧ (w'.heap[gb334]? = some (.cells #[.int .i64 0, .slice none 0 0] 27 (0, 0))) ∧ (w'.heap[s_.2.2]? = some (.cells #[.int .i64 0, .slice none 0 0] 27 (0, 0))) ∧ (w.heap.size ≤ s_.2.2) ∧ (w.heap.size ≤ s_.2.2) ∧ (gb333 ≠ s_.2.2) ∧ (s_.2.2 ≠ gb333) ∧ (gb334 ≠ s_.2.2) ∧ (s_.2.2 ≠ gb334) ∧ (Below w.heap.size w w')) ?_ ?_
  rotate_left
  ·intro hCont
   refine two_ (i := 5) (j := 10) (Ni := some 15) (Nj := some 3) #[true, true, true, true, true, true, false, false, false, false, false, false, false] #[true, true, true, true, true, false, false, false, false, false, true, false, false] rfl rfl rfl rfl (two_of HT_.out kr) (by decide) (by decide) (fun K hK => ?_) (fun K hK => ?_)
   ·skip
    refine goes_ Try.func68 kr rfl #[.int .i64 a0_2, .func (.func 69) #[] #[.pointer (some ⟨gb333, 0, none⟩)]] (by rfl) rfl rfl p5 ?_
    with_reducible refine (impl_FromMatrix_sets.calls k a0_2 a0_0 a0_1 a0_2 _ _ l0_3 t336 _ ?side1 ?side2 A4.out gb333 (by repeat (first | exact BK333.out | (with_reducible refine blk_drewN ?_ _) | (with_reducible refine blk_drew ?_) | (with_reducible refine blk_alloc ?_ _) | exact blk_put BK333.out 0 _ rfl))).mono ?_
    (case side1 => exact pC (Kd.C_below HR0_3.out HB.out))
    (case side2 => exact HC0_3.out)
    rintro e w12 ⟨v337, rfl, ho0, hb⟩
    refine ⟨_, rfl, ?_⟩
    have HO338 := Aside0.mk (Kd.R_lower ho0 (below_size pB))
    replace BK333 := Aside0.mk (bB BK333.out hb)
    replace BK334 := Aside0.mk (bB BK334.out hb)
    replace HB := Aside0.mk (below_step pB hb)
    (try clear hb)
    (try clear hb2)
    (try clear hk)
    (try clear hi)
    (try clear ho0)
    obtain ⟨Ao13, co13, eo13⟩ := Kd.R_slice HO338.out
    (first | subst eo13 | (injection eo13 with f1_ f2_ f3_; have f4_ := f1_.symm; have f5_ := f3_.symm; clear f1_ f2_ f3_; subst f4_; subst f5_))
    refine hK.out _ _ ⟨(blk_cell BK333.out 0).trans rfl, (blk_cell BK333.out 1).trans rfl, (blk_cell BK333.out 2).trans rfl, (blk_cell BK333.out 3).trans rfl⟩ (fun hHeld => ?_)
    clear hK K
    refine norm_ (a' := ?_) ?_ ?_
    rotate_left
    ·show Act.put _ (some 15) _ = _
     simp only [Act.put, List.setIfInBounds_toArray, List.set_cons_zero, List.set_cons_succ, i64_w, i32_w]
     rfl
    refine two_ (i := 6) (j := 10) (Ni := some 16) (Nj := some 3) #[true, true, true, true, true, true, true, false, false, false, false, false, false] #[true, true, true, true, true, true, false, false, false, false, true, false, false] rfl rfl rfl rfl (two_of HT_.out kr) (by decide) (by decide) (fun K hK => ?_) (fun K hK => ?_)
    ·skip
     refine goes_ Try.func67 kr rfl #[.int .i64 a0_2, .slice Ao13 t336.length co13] (by rfl) rfl rfl p5 ?_
     with_reducible refine (impl_fromIndependent.calls k a0_2 _ _ t336 t339 t340 t343 _ ?side1 ?side2 A5.out).mono ?_
     (case side1 => repeat (first | exact (Kd.R_reads' HO338.out).2.2 | (with_reducible refine Kd.C_alloc ?_ _) | (with_reducible refine Kd.C_drewN ?_ _) | (with_reducible refine Kd.C_drew ?_)))
     (case side2 => exact (Kd.R_reads' HO338.out).2.1)
     rintro e w14 ⟨v341, rfl, ho0, hb⟩
     refine ⟨_, rfl, ?_⟩
     have HO342 := Aside0.mk (Kd.R_lower (Kd.R_new' ho0 (Kd.R_lt (pR HO338.out))) (below_size pB))
     replace HO338 := Aside0.mk (Kd.R_elder' (pR HO338.out) (Kd.R_base ho0) hb)
     replace BK333 := Aside0.mk (bB BK333.out hb)
     replace BK334 := Aside0.mk (bB BK334.out hb)
     replace HB := Aside0.mk (below_step pB hb)
     (try clear hb)
     (try clear hb2)
     (try clear hk)
     (try clear hi)
     (try clear ho0)
     refine hK.out _ _ ⟨(blk_cell BK333.out 0).trans rfl, (blk_cell BK333.out 1).trans rfl, (blk_cell BK333.out 2).trans rfl, (blk_cell BK333.out 3).trans rfl⟩ (fun hHeld => ?_)
     clear hK K
     refine norm_ (a' := ?_) ?_ ?_
     rotate_left
     ·show Act.put _ (some 16) _ = _
      simp only [Act.put, List.setIfInBounds_toArray, List.set_cons_zero, List.set_cons_succ, i64_w, i32_w]
      rfl
     refine pA 7 9 (any_of HT_.out kr) ?_
     refine pA 8 17 (any_of HT_.out kr) ?_
     refine pA 9 18 (any_of HT_.out kr) ?_
     refine one_ (i := 10) (N := some 3) #[true, true, true, true, true, true, true, true, true, true, true, false, false] rfl rfl (one_of HT_.out kr) (by decide) (fun K hK => ?_)
     refine box_step ?hg (N := 3) ?hd (cs := #[.int .i64 0, .slice none 0 0]) (t := 27) ?hr ?_; (case hd => rfl); (case hg => rfl); (case hr => first | (go_simp; done) | (go_simp; rfl))
     intro gb344 hg w15 hbox hb
     replace HO338 := Aside0.mk (Kd.R_below (pR HO338.out) hb)
     replace HO342 := Aside0.mk (Kd.R_below (pR HO342.out) hb)
     have BK344 := Aside0.mk (hbox)
     have GW344 := Aside0.mk (bZ (w := w) hg)
     have GE344 := Aside0.mk (bZ (w := w) hg)
     replace HB := Aside0.mk (below_step pB hb)
     have NB333_344 := Aside0.mk (bL BK333.out hg)
     have NB344_333 := Aside0.mk (bG BK333.out hg)
     replace BK333 := Aside0.mk (bB BK333.out hb)
     have NB334_344 := Aside0.mk (bL BK334.out hg)
     have NB344_334 := Aside0.mk (bG BK334.out hg)
     replace BK334 := Aside0.mk (bB BK334.out hb)
     clear hb hbox hg
     refine hK.out _ _ ⟨(blk_cell BK333.out 0).trans rfl, (blk_cell BK333.out 1).trans rfl, (blk_cell BK333.out 2).trans rfl, (blk_cell BK333.out 3).trans rfl⟩ (fun hHeld => ?_)
     clear hK K
     refine norm_ (a' := ?_) ?_ ?_
     rotate_left
     ·show Act.put _ (some 3) _ = _
      simp only [Act.put, List.setIfInBounds_toArray, List.set_cons_zero, List.set_cons_succ, i64_w, i32_w]
      rfl
     exact norm_ (by simp only [putAll, Act.put, List.setIfInBounds_toArray, List.set_cons_zero, List.set_cons_succ]) (hCont (.slice Ao13 t336.length co13, v341, gb344) _ ⟨hHeld, (by (with_reducible repeat (first | apply Kd.R_alloc | apply Kd.R_drewN | apply Kd.R_drew)); exact Kd.R_mono HO338.out (fun _ hk => hk.2)), (by (with_reducible repeat (first | apply Kd.R_alloc | apply Kd.R_drewN | apply Kd.R_drew)); exact Kd.R_mono HO342.out (fun _ hk => hk.2)), (pK BK333.out), (pK BK334.out), (pK BK344.out), GW344.out, GE344.out, NB333_344.out, NB344_333.out, NB334_344.out, NB344_334.out, pB⟩)
    ·skip
     refine box_step ?hg (N := 3) ?hd (cs := #[.int .i64 0, .slice none 0 0]) (t := 27) ?hr ?_; (case hd => rfl); (case hg => rfl); (case hr => first | (go_simp; done) | (go_simp; rfl))
     intro gb344 hg w13 hbox hb
     replace HO338 := Aside0.mk (Kd.R_below (pR HO338.out) hb)
     have BK344 := Aside0.mk (hbox)
     have GW344 := Aside0.mk (bZ (w := w) hg)
     have GE344 := Aside0.mk (bZ (w := w) hg)
     replace HB := Aside0.mk (below_step pB hb)
     have NB333_344 := Aside0.mk (bL BK333.out hg)
     have NB344_333 := Aside0.mk (bG BK333.out hg)
     replace BK333 := Aside0.mk (bB BK333.out hb)
     have NB334_344 := Aside0.mk (bL BK334.out hg)
     have NB344_334 := Aside0.mk (bG BK334.out hg)
     replace BK334 := Aside0.mk (bB BK334.out hb)
     clear hb hbox hg
     obtain ⟨Ao14, co14, eo14⟩ := Kd.R_slice HO338.out
     (first | subst eo14 | (injection eo14 with f1_ f2_ f3_; have f4_ := f1_.symm; have f5_ := f3_.symm; clear f1_ f2_ f3_; subst f4_; subst f5_))
     refine hK.out _ _ ⟨(blk_cell BK333.out 0).trans rfl, (blk_cell BK333.out 1).trans rfl, (blk_cell BK333.out 2).trans rfl, (blk_cell BK333.out 3).trans rfl⟩ (fun hHeld => ?_)
     clear hK K
     refine norm_ (a' := ?_) ?_ ?_
     rotate_left
     ·show Act.put _ (some 3) _ = _
      simp only [Act.put, List.setIfInBounds_toArray, List.set_cons_zero, List.set_cons_succ, i64_w, i32_w]
      rfl
     refine one_ (i := 6) (N := some 16) #[true, true, true, true, true, true, true, false, false, false, true, false, false] rfl rfl (one_of HT_.out kr) (by decide) (fun K hK => ?_)
     refine goes_ Try.func67 kr rfl #[.int .i64 a0_2, .slice Ao14 t336.length co14] (by rfl) rfl rfl p5 ?_
     with_reducible refine (impl_fromIndependent.calls k a0_2 _ _ t336 t339 t340 t343 _ ?side1 ?side2 A5.out).mono ?_
     (case side1 => repeat (first | exact (Kd.R_reads' HO338.out).2.2 | (with_reducible refine Kd.C_alloc ?_ _) | (with_reducible refine Kd.C_drewN ?_ _) | (with_reducible refine Kd.C_drew ?_)))
     (case side2 => exact (Kd.R_reads' HO338.out).2.1)
     rintro e w15 ⟨v341, rfl, ho0, hb⟩
     refine ⟨_, rfl, ?_⟩
     have HO342 := Aside0.mk (Kd.R_lower (Kd.R_new' ho0 (Kd.R_lt (pR HO338.out))) (below_size pB))
     replace HO338 := Aside0.mk (Kd.R_elder' (pR HO338.out) (Kd.R_base ho0) hb)
     replace BK333 := Aside0.mk (bB BK333.out hb)
     replace BK334 := Aside0.mk (bB BK334.out hb)
     replace BK344 := Aside0.mk (bB BK344.out hb)
     replace HB := Aside0.mk (below_step pB hb)
     (try clear hb)
     (try clear hb2)
     (try clear hk)
     (try clear hi)
     (try clear ho0)
     refine hK.out _ _ ⟨(blk_cell BK333.out 0).trans rfl, (blk_cell BK333.out 1).trans rfl, (blk_cell BK333.out 2).trans rfl, (blk_cell BK333.out 3).trans rfl⟩ (fun hHeld => ?_)
     clear hK K
     refine norm_ (a' := ?_) ?_ ?_
     rotate_left
     ·show Act.put _ (some 16) _ = _
      simp only [Act.put, List.setIfInBounds_toArray, List.set_cons_zero, List.set_cons_succ, i64_w, i32_w]
      rfl
     refine pA 7 9 (any_of HT_.out kr) ?_
     refine pA 8 17 (any_of HT_.out kr) ?_
     refine pA 9 18 (any_of HT_.out kr) ?_
     exact norm_ (by simp only [putAll, Act.put, List.setIfInBounds_toArray, List.set_cons_zero, List.set_cons_succ]) (hCont (.slice Ao14 t336.length co14, v341, gb344) _ ⟨hHeld, (by (with_reducible repeat (first | apply Kd.R_alloc | apply Kd.R_drewN | apply Kd.R_drew)); exact Kd.R_mono HO338.out (fun _ hk => hk.2)), (by (with_reducible repeat (first | apply Kd.R_alloc | apply Kd.R_drewN | apply Kd.R_drew)); exact Kd.R_mono HO342.out (fun _ hk => hk.2)), (pK BK333.out), (pK BK334.out), (pK BK344.out), GW344.out, GE344.out, NB333_344.out, NB344_333.out, NB334_344.out, NB344_334.out, pB⟩)
   ·skip
    refine box_step ?hg (N := 3) ?hd (cs := #[.int .i64 0, .slice none 0 0]) (t := 27) ?hr ?_; (case hd => rfl); (case hg => rfl); (case hr => first | (go_simp; done) | (go_simp; rfl))
    intro gb344 hg w12 hbox hb
    have BK344 := Aside0.mk (hbox)
    have GW344 := Aside0.mk (bZ (w := w) hg)
    have GE344 := Aside0.mk (bZ (w := w) hg)
    replace HB := Aside0.mk (below_step pB hb)
    have NB333_344 := Aside0.mk (bL BK333.out hg)
    have NB344_333 := Aside0.mk (bG BK333.out hg)
    replace BK333 := Aside0.mk (bB BK333.out hb)
    have NB334_344 := Aside0.mk (bL BK334.out hg)
    have NB344_334 := Aside0.mk (bG BK334.out hg)
    replace BK334 := Aside0.mk (bB BK334.out hb)
    clear hb hbox hg
    refine hK.out _ _ ⟨(blk_cell BK333.out 0).trans rfl, (blk_cell BK333.out 1).trans rfl, (blk_cell BK333.out 2).trans rfl, (blk_cell BK333.out 3).trans rfl⟩ (fun hHeld => ?_)
    clear hK K
    refine norm_ (a' := ?_) ?_ ?_
    rotate_left
    ·show Act.put _ (some 3) _ = _
     simp only [Act.put, List.setIfInBounds_toArray, List.set_cons_zero, List.set_cons_succ, i64_w, i32_w]
     rfl
    refine one_ (i := 5) (N := some 15) #[true, true, true, true, true, true, false, false, false, false, true, false, false] rfl rfl (one_of HT_.out kr) (by decide) (fun K hK => ?_)
    refine goes_ Try.func68 kr rfl #[.int .i64 a0_2, .func (.func 69) #[] #[.pointer (some ⟨gb333, 0, none⟩)]] (by rfl) rfl rfl p5 ?_
    with_reducible refine (impl_FromMatrix_sets.calls k a0_2 a0_0 a0_1 a0_2 _ _ l0_3 t336 _ ?side1 ?side2 A4.out gb333 (by repeat (first | exact BK333.out | (with_reducible refine blk_drewN ?_ _) | (with_reducible refine blk_drew ?_) | (with_reducible refine blk_alloc ?_ _) | exact blk_put BK333.out 0 _ rfl))).mono ?_
    (case side1 => exact pC (Kd.C_below HR0_3.out HB.out))
    (case side2 => exact HC0_3.out)
    rintro e w13 ⟨v337, rfl, ho0, hb⟩
    refine ⟨_, rfl, ?_⟩
    have HO338 := Aside0.mk (Kd.R_lower ho0 (below_size pB))
    replace BK333 := Aside0.mk (bB BK333.out hb)
    replace BK334 := Aside0.mk (bB BK334.out hb)
    replace BK344 := Aside0.mk (bB BK344.out hb)
    replace HB := Aside0.mk (below_step pB hb)
    (try clear hb)
    (try clear hb2)
    (try clear hk)
    (try clear hi)
    (try clear ho0)
    obtain ⟨Ao14, co14, eo14⟩ := Kd.R_slice HO338.out
    (first | subst eo14 | (injection eo14 with f1_ f2_ f3_; have f4_ := f1_.symm; have f5_ := f3_.symm; clear f1_ f2_ f3_; subst f4_; subst f5_))
    refine hK.out _ _ ⟨(blk_cell BK333.out 0).trans rfl, (blk_cell BK333.out 1).trans rfl, (blk_cell BK333.out 2).trans rfl, (blk_cell BK333.out 3).trans rfl⟩ (fun hHeld => ?_)
    clear hK K
    refine norm_ (a' := ?_) ?_ ?_
    rotate_left
    ·show Act.put _ (some 15) _ = _
     simp only [Act.put, List.setIfInBounds_toArray, List.set_cons_zero, List.set_cons_succ, i64_w, i32_w]
     rfl
    refine one_ (i := 6) (N := some 16) #[true, true, true, true, true, true, true, false, false, false, true, false, false] rfl rfl (one_of HT_.out kr) (by decide) (fun K hK => ?_)
    refine goes_ Try.func67 kr rfl #[.int .i64 a0_2, .slice Ao14 t336.length co14] (by rfl) rfl rfl p5 ?_
    with_reducible refine (impl_fromIndependent.calls k a0_2 _ _ t336 t339 t340 t343 _ ?side1 ?side2 A5.out).mono ?_
    (case side1 => repeat (first | exact (Kd.R_reads' HO338.out).2.2 | (with_reducible refine Kd.C_alloc ?_ _) | (with_reducible refine Kd.C_drewN ?_ _) | (with_reducible refine Kd.C_drew ?_)))
    (case side2 => exact (Kd.R_reads' HO338.out).2.1)
    rintro e w15 ⟨v341, rfl, ho0, hb⟩
    refine ⟨_, rfl, ?_⟩
    have HO342 := Aside0.mk (Kd.R_lower (Kd.R_new' ho0 (Kd.R_lt (pR HO338.out))) (below_size pB))
    replace HO338 := Aside0.mk (Kd.R_elder' (pR HO338.out) (Kd.R_base ho0) hb)
    replace BK333 := Aside0.mk (bB BK333.out hb)
    replace BK334 := Aside0.mk (bB BK334.out hb)
    replace BK344 := Aside0.mk (bB BK344.out hb)
    replace HB := Aside0.mk (below_step pB hb)
    (try clear hb)
    (try clear hb2)
    (try clear hk)
    (try clear hi)
    (try clear ho0)
    refine hK.out _ _ ⟨(blk_cell BK333.out 0).trans rfl, (blk_cell BK333.out 1).trans rfl, (blk_cell BK333.out 2).trans rfl, (blk_cell BK333.out 3).trans rfl⟩ (fun hHeld => ?_)
    clear hK K
    refine norm_ (a' := ?_) ?_ ?_
    rotate_left
    ·show Act.put _ (some 16) _ = _
     simp only [Act.put, List.setIfInBounds_toArray, List.set_cons_zero, List.set_cons_succ, i64_w, i32_w]
     rfl
    refine pA 7 9 (any_of HT_.out kr) ?_
    refine pA 8 17 (any_of HT_.out kr) ?_
    refine pA 9 18 (any_of HT_.out kr) ?_
    exact norm_ (by simp only [putAll, Act.put, List.setIfInBounds_toArray, List.set_cons_zero, List.set_cons_succ]) (hCont (.slice Ao14 t336.length co14, v341, gb344) _ ⟨hHeld, (by (with_reducible repeat (first | apply Kd.R_alloc | apply Kd.R_drewN | apply Kd.R_drew)); exact Kd.R_mono HO338.out (fun _ hk => hk.2)), (by (with_reducible repeat (first | apply Kd.R_alloc | apply Kd.R_drewN | apply Kd.R_drew)); exact Kd.R_mono HO342.out (fun _ hk => hk.2)), (pK BK333.out), (pK BK334.out), (pK BK344.out), GW344.out, GE344.out, NB333_344.out, NB344_333.out, NB334_344.out, NB344_334.out, pB⟩)
  rintro ⟨v337, v341, gb344⟩ w16 ⟨hS_, h0_, h1_, h2_, h3_, h4_, h5_, h6_, h7_, h8_, h9_, h10_, h11_⟩
  have n0_ : Aside0 (Kd.R (Kd.int .i64) 3 w16 w.heap.size (fun k_ => some k_ ≠ (v341 : Value).ownBlock) v337 t336) := ⟨h0_⟩
  have n1_ : Aside0 (Kd.R (Kd.int .i64) 3 w16 w.heap.size (fun k_ => some k_ ≠ (v337 : Value).ownBlock) v341 t340) := ⟨h1_⟩
  have n2_ : Aside0 (w16.heap[gb333]? = some (.cells #[.int .i64 a0_0, .int .i64 a0_1, .int .i64 a0_2, .slice A0_3 l0_3.length c0_3] 32 (0, 0))) := ⟨h2_⟩
  have n3_ : Aside0 (w16.heap[gb334]? = some (.cells #[.int .i64 0, .slice none 0 0] 27 (0, 0))) := ⟨h3_⟩
  have n4_ : Aside0 (w16.heap[gb344]? = some (.cells #[.int .i64 0, .slice none 0 0] 27 (0, 0))) := ⟨h4_⟩
  have n5_ : Aside0 (w.heap.size ≤ gb344) := ⟨h5_⟩
  have n6_ : Aside0 (w.heap.size ≤ gb344) := ⟨h6_⟩
  have n7_ : Aside0 (gb333 ≠ gb344) := ⟨h7_⟩
  have n8_ : Aside0 (gb344 ≠ gb333) := ⟨h8_⟩
  have n9_ : Aside0 (gb334 ≠ gb344) := ⟨h9_⟩
  have n10_ : Aside0 (gb344 ≠ gb334) := ⟨h10_⟩
  have n11_ : Aside0 (Below w.heap.size w w16) := ⟨h11_⟩
  clear BK333
  clear BK334
  clear HB
  clear h0_ h1_ h2_ h3_ h4_ h5_ h6_ h7_ h8_ h9_ h10_ h11_
  have HO338 := n0_
  have HO342 := n1_
  have BK333 := n2_
  have BK334 := n3_
  have BK344 := n4_
  have GW344 := n5_
  have GE344 := n6_
  have NB333_344 := n7_
  have NB344_333 := n8_
  have NB334_344 := n9_
  have NB344_334 := n10_
  have HB := n11_
  clear n0_ n1_ n2_ n3_ n4_ n5_ n6_ n7_ n8_ n9_ n10_ n11_
  have hHeld : w16.cell? ⟨gb333, 0, none⟩ = some (.int .i64 a0_0) ∧ w16.cell? ⟨gb333, 1, none⟩ = some (.int .i64 a0_1) ∧ w16.cell? ⟨gb333, 2, none⟩ = some (.int .i64 a0_2) ∧ w16.cell? ⟨gb333, 3, none⟩ = some (.slice A0_3 l0_3.length c0_3) := hS_
  obtain ⟨Ao18, co18, eo18⟩ := Kd.R_slice HO342.out
  (first | subst eo18 | (injection eo18 with f1_ f2_ f3_; have f4_ := f1_.symm; have f5_ := f3_.symm; clear f1_ f2_ f3_; subst f4_; subst f5_))
  refine norm_ (a' := ?_) ?_ ?_
  rotate_left
  ·simp only [putAll, Act.put, List.setIfInBounds_toArray, List.set_cons_zero, List.set_cons_succ]
   rfl
  refine one_ (i := 11) (N := none) #[true, true, true, true, true, true, true, true, true, true, true, true, false] rfl rfl (one_of HT_.out kr) (by decide) (fun K hK => ?_)
  have hs17 : w16.cell? ⟨gb344, 0, none⟩ = some (.int .i64 0) := (blk_cell BK344.out 0).trans rfl
  have hfs17 := blk_frozen BK344.out 0
  have hns17_0 := NB333_344.out
  have hns17_1 := NB334_344.out
  have hms17_0 := NB344_333.out
  have hms17_1 := NB344_334.out
  have hs19 : w16.cell? ⟨gb344, 1, none⟩ = some (.slice none 0 0) := (blk_cell BK344.out 1).trans rfl
  have hfs19 := blk_frozen BK344.out 1
  have hns19_0 := NB333_344.out
  have hns19_1 := NB334_344.out
  have hms19_0 := NB344_333.out
  have hms19_1 := NB344_334.out
  refine skip_ (w1 := ?_) (by rfl) rfl ?_ ?_
  rotate_left
  ·go_simp
   rfl
  refine hK.out _ _ ⟨((cell_far (p := ⟨gb344, _, none⟩) NB333_344.out _).trans (((cell_far (p := ⟨gb344, _, none⟩) NB333_344.out _).trans (hHeld.1)))), ((cell_far (p := ⟨gb344, _, none⟩) NB333_344.out _).trans (((cell_far (p := ⟨gb344, _, none⟩) NB333_344.out _).trans (hHeld.2.1)))), ((cell_far (p := ⟨gb344, _, none⟩) NB333_344.out _).trans (((cell_far (p := ⟨gb344, _, none⟩) NB333_344.out _).trans (hHeld.2.2.1)))), ((cell_far (p := ⟨gb344, _, none⟩) NB333_344.out _).trans (((cell_far (p := ⟨gb344, _, none⟩) NB333_344.out _).trans (hHeld.2.2.2))))⟩ (fun hHeld => ?_)
  clear hK K
  refine pA 12 4 (any_of HT_.out kr) ?_
  refine done_ (done_of HT_.out kr) ?_
  have hnb20 := NB344_333.out
  have hnc20 := NB333_344.out
  have hnb21 := NB344_334.out
  have hnc21 := NB334_344.out
  obtain ⟨hcz22_0, hcz22_1, hfz22_0, hfz22_1⟩ := bc2 BK344.out
  obtain ⟨hcz23_0, hcz23_1, hfz23_0, hfz23_1⟩ := bc2 BK334.out
  try go_wp2
  refine bodyPost_ret (results_cell_row rfl _ _ gb334 27 #[.int .i64 t339, .slice Ao18 t340.length co18] (0, 0) _ rfl (by (with_reducible repeat (first | refine blk_drewN ?_ _ | refine blk_drew ?_ | refine blk_alloc ?_ _)); refine blk_put (cs := #[.int .i64 t339, .slice none 0 0]) ?_ 1 _ rfl; (with_reducible repeat (first | refine blk_drewN ?_ _ | refine blk_drew ?_ | refine blk_alloc ?_ _)); refine blk_put (cs := #[.int .i64 0, .slice none 0 0]) ?_ 0 _ rfl; (with_reducible repeat (first | refine blk_drewN ?_ _ | refine blk_drew ?_ | refine blk_alloc ?_ _)); refine blk_far ?_ NB334_344.out _; (with_reducible repeat (first | refine blk_drewN ?_ _ | refine blk_drew ?_ | refine blk_alloc ?_ _)); refine blk_far ?_ NB334_344.out _; exact pK BK334.out) Try.underlying27 rfl kr) rfl ?_
  exact ⟨_, p8, by (with_reducible repeat (first | apply Kd.R_alloc | apply Kd.R_drewN | apply Kd.R_drew)); exact Kd.R_mono (Kd.R_far (p := ⟨gb334, 1, none⟩) (Kd.R_far (p := ⟨gb334, 0, none⟩) (Kd.R_far (p := ⟨gb344, 1, none⟩) (Kd.R_far (p := ⟨gb344, 0, none⟩) (Kd.R_types (Kd.R_types HO342.out BK344.out (by decide)) BK334.out (by decide)) (fun _ hk => hk.1.2) (.int .i64 t339)) (fun _ hk => hk.1.2) (.slice Ao18 t340.length co18)) (fun _ hk => hk.2) (.int .i64 t339)) (fun _ hk => hk.2) (.slice Ao18 t340.length co18)) (fun _ hk => trivial), pB⟩
 ·replace c3 := Bool.eq_false_iff.mpr c3
  subst c3
  replace H := iN H
  simp only [Option.some.injEq, Prod.mk.injEq] at H
  obtain ⟨rfl, rfl⟩ := H
  go_enter Try.func50, Try.ntmps50
  go_wp2_with (first | ((with_reducible refine gate_dst (N := 1) rfl ?_); refine box_event ?hg (N := 1) ?hd (cs := #[.int .i64 a0_0, .int .i64 a0_1, .int .i64 a0_2, .slice A0_3 l0_3.length c0_3]) (t := 32) ?hr ?_; (case hd => rfl); (case hg => rfl); (case hr => first | (go_simp; done) | (go_simp; rfl)); intro gb333 hg w24 hbox hb; have BK333 := Aside0.mk (hbox); have GW333 := Aside0.mk (bZ (w := w) hg); have GE333 := Aside0.mk (bZ (w := w) hg); replace HB := Aside0.mk (below_step pB hb); clear hb hbox hg) | ((with_reducible refine gate_dst (N := 2) rfl ?_); refine box_event ?hg (N := 2) ?hd (cs := #[.int .i64 0, .slice none 0 0]) (t := 27) ?hr ?_; (case hd => rfl); (case hg => rfl); (case hr => first | (go_simp; done) | (go_simp; rfl)); intro gb334 hg w25 hbox hb; have BK334 := Aside0.mk (hbox); have GW334 := Aside0.mk (bZ (w := w) hg); have GE334 := Aside0.mk (bZ (w := w) hg); replace HB := Aside0.mk (below_step pB hb); have NB333_334 := Aside0.mk (bL BK333.out hg); have NB334_333 := Aside0.mk (bG BK333.out hg); replace BK333 := Aside0.mk (bB BK333.out hb); clear hb hbox hg; have hnb26 := NB333_334.out; have hnc26 := NB334_333.out; obtain ⟨hcz27_0, hcz27_1, hcz27_2, hcz27_3, hfz27_0, hfz27_1, hfz27_2, hfz27_3⟩ := bc4 BK333.out) | ((with_reducible refine gate_callee (f := 66) rfl ?_); refine goesL_ (some 6) rfl rfl Try.func66 kr rfl #[.agg #[.int .i64 a0_0, .int .i64 a0_1, .int .i64 a0_2, .slice A0_3 l0_3.length c0_3]] rfl p5 ?_; (with_reducible refine (impl_IsMatrix.calls k a0_0 a0_1 a0_2 _ _ l0_3 false _ ?side1 ?side2 A2.out).mono ?_); (case side1 => exact pC (Kd.C_below HR0_3.out HB.out)); (case side2 => exact HC0_3.out); rintro e w28 ⟨rfl, hb⟩; refine ⟨_, rfl, ?_⟩; replace BK333 := Aside0.mk (bB BK333.out hb); replace BK334 := Aside0.mk (bB BK334.out hb); replace HB := Aside0.mk (below_step pB hb); (try clear hb); (try clear hb2); (try clear hk); (try clear hi); obtain ⟨hcz29_0, hcz29_1, hfz29_0, hfz29_1⟩ := bc2 BK334.out))
  refine bodyPost_ret (results_cell_row rfl _ _ gb334 27 #[.int .i64 0, .slice none 0 0] (0, 0) _ rfl (by (with_reducible repeat (first | refine blk_drewN ?_ _ | refine blk_drew ?_ | refine blk_alloc ?_ _)); refine blk_put (cs := #[.int .i64 0, .slice none 0 0]) ?_ 1 _ rfl; (with_reducible repeat (first | refine blk_drewN ?_ _ | refine blk_drew ?_ | refine blk_alloc ?_ _)); refine blk_put (cs := #[.int .i64 0, .slice none 0 0]) ?_ 0 _ rfl; exact pK BK334.out) Try.underlying27 rfl kr) rfl ?_
  exact ⟨_, p8, p9, pB⟩
end Go.Proofs.Ytbhckhblonkajaa.Q
