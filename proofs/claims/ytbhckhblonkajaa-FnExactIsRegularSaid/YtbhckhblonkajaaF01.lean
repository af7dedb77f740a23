/- Proved: the law FnExactIsRegular returns true for every argument, and each argument reads afterwards as before; no conditions beyond the given row's own. -/
import Derived.Test.YtbhckhblonkajaaRows
import Derived.WalkKit
import Derived.ProofKit
import Derived.OpenShut
import Derived.ShutString
import Derived.ChangeOld
import Derived.Below
import Derived.SizedLaws
import Derived.Lib.SmallJoins
import Derived.ChangeSlices
import Derived.Test.YtbhckhblonkajaaC04
import Derived.Test.YtbhckhblonkajaaC14
import Derived.Test.YtbhckhblonkajaaC22
import Derived.Test.YtbhckhblonkajaaC26
set_option linter.unusedVariables false
set_option linter.unusedSimpArgs false
namespace Go.Proofs.Ytbhckhblonkajaa.Q
open Go.RowKit Go.Proofs.YtbhckhblonkajaaW.PrintWords Go.Proofs.YtbhckhblonkajaaW.PrintLast Go.Proofs.YtbhckhblonkajaaW.PrintMore
attribute [local go_sem] max2_int min2_int max_two min_two max_three min_three max_four min_four
def impl_IsRegular.f (k : Nat) (a0_0 : Int) (l0_1 : List Int) : Option (Bool) := (impl_IsBinary.f k a0_0 l0_1).bind fun t456 => (if t456 = true then ((impl_IsTernary.f k a0_0 l0_1).bind fun t457 => (some t457)) else (some false))
set_option maxHeartbeats 8000000 in
set_option maxRecDepth 100000 in
theorem impl_IsRegular.calls (k : Nat) (a0_0 : Int) (A0_1 : Option Addr) (c0_1 : Nat) (l0_1 : List Int) (r : Bool) (w : World) (hr0_1 : Kd.C (Kd.int .i64) w A0_1 l0_1.length l0_1) (hc0_1 : l0_1.length ≤ c0_1) (h : impl_IsRegular.f k a0_0 l0_1 = some r) :
  Calls Try.prog 15 #[.agg #[.int .i64 a0_0, .slice A0_1 l0_1.length c0_1]] w fun e w' => e = .returned (.bool r) ∧ Below w.heap.size w w' := by
 have hu27 := Try.underlying27
 have HR0_1 := Aside0.mk hr0_1
 have HC0_1 := Aside0.mk hc0_1
 clear hr0_1 hc0_1
 have HB := Aside0.mk (Below.refl w.heap.size w)
 have H : ((impl_IsBinary.f k a0_0 l0_1).bind fun t456 => (if t456 = true then ((impl_IsTernary.f k a0_0 l0_1).bind fun t457 => (some t457)) else (some false))) = some r := h
 clear h
 replace H := bS H
 obtain ⟨t456, A2, H⟩ := H
 by_cases c3 : t456 = true
 ·subst c3
  replace H := iP H
  replace H := bS H
  obtain ⟨t457, A4, H⟩ := H
  obtain rfl := Option.some.inj H
  go_enter Try.func15, Try.ntmps15
  go_wp2_with (first | ((with_reducible refine gate_dst (N := 1) rfl ?_); refine box_event ?hg (N := 1) ?hd (cs := #[.int .i64 a0_0, .slice A0_1 l0_1.length c0_1]) (t := 27) ?hr ?_; (case hd => rfl); (case hg => rfl); (case hr => first | (go_simp; done) | (go_simp; rfl)); intro gb455 hg w5 hbox hb; have BK455 := Aside0.mk (hbox); have GW455 := Aside0.mk (bZ (w := w) hg); have GE455 := Aside0.mk (bZ (w := w) hg); replace HB := Aside0.mk (below_step pB hb); clear hb hbox hg; obtain ⟨hcz6_0, hcz6_1, hfz6_0, hfz6_1⟩ := bc2 BK455.out) | ((with_reducible refine gate_callee (f := 10) rfl ?_); refine goesL_ (some 4) rfl rfl Try.func10 kr rfl #[.agg #[.int .i64 a0_0, .slice A0_1 l0_1.length c0_1]] rfl p5 ?_; (with_reducible refine (impl_IsBinary.calls k a0_0 _ _ l0_1 true _ ?side1 ?side2 A2.out).mono ?_); (case side1 => exact pC (Kd.C_below HR0_1.out HB.out)); (case side2 => exact HC0_1.out); rintro e w7 ⟨rfl, hb⟩; refine ⟨_, rfl, ?_⟩; replace BK455 := Aside0.mk (bB BK455.out hb); replace HB := Aside0.mk (below_step pB hb); (try clear hb); (try clear hb2); (try clear hk); (try clear hi); obtain ⟨hcz8_0, hcz8_1, hfz8_0, hfz8_1⟩ := bc2 BK455.out) | (go_at_call 13; (with_reducible refine (impl_IsTernary.calls k a0_0 _ _ l0_1 t457 _ ?side1 ?side2 A4.out).mono ?_); (case side1 => exact pC (Kd.C_below HR0_1.out HB.out)); (case side2 => exact HC0_1.out); rintro e w9 ⟨rfl, hb⟩; replace BK455 := Aside0.mk (bB BK455.out hb); replace HB := Aside0.mk (below_step pB hb); (try clear hb); (try clear hb2); (try clear hk); (try clear hi)))
  go_ret
  exact ⟨p8, pB⟩
 ·replace c3 := Bool.eq_false_iff.mpr c3
  subst c3
  replace H := iN H
  obtain rfl := Option.some.inj H
  go_enter Try.func15, Try.ntmps15
  go_wp2_with (first | ((with_reducible refine gate_dst (N := 1) rfl ?_); refine box_event ?hg (N := 1) ?hd (cs := #[.int .i64 a0_0, .slice A0_1 l0_1.length c0_1]) (t := 27) ?hr ?_; (case hd => rfl); (case hg => rfl); (case hr => first | (go_simp; done) | (go_simp; rfl)); intro gb455 hg w10 hbox hb; have BK455 := Aside0.mk (hbox); have GW455 := Aside0.mk (bZ (w := w) hg); have GE455 := Aside0.mk (bZ (w := w) hg); replace HB := Aside0.mk (below_step pB hb); clear hb hbox hg; obtain ⟨hcz11_0, hcz11_1, hfz11_0, hfz11_1⟩ := bc2 BK455.out) | ((with_reducible refine gate_callee (f := 10) rfl ?_); refine goesL_ (some 4) rfl rfl Try.func10 kr rfl #[.agg #[.int .i64 a0_0, .slice A0_1 l0_1.length c0_1]] rfl p5 ?_; (with_reducible refine (impl_IsBinary.calls k a0_0 _ _ l0_1 false _ ?side1 ?side2 A2.out).mono ?_); (case side1 => exact pC (Kd.C_below HR0_1.out HB.out)); (case side2 => exact HC0_1.out); rintro e w12 ⟨rfl, hb⟩; refine ⟨_, rfl, ?_⟩; replace BK455 := Aside0.mk (bB BK455.out hb); replace HB := Aside0.mk (below_step pB hb); (try clear hb); (try clear hb2); (try clear hk); (try clear hi)))
  go_ret
  exact ⟨p8, pB⟩
def spec_IsRegular.f (k : Nat) (a0_0 : Int) (l0_1 : List Int) : Option (Bool) := (spec_IsBinary.f k a0_0 l0_1).bind fun t453 => (if t453 = true then ((spec_IsTernary.f k a0_0 l0_1).bind fun t454 => (some t454)) else (some false))
set_option maxHeartbeats 8000000 in
set_option maxRecDepth 100000 in
theorem spec_IsRegular.calls (k : Nat) (a0_0 : Int) (A0_1 : Option Addr) (c0_1 : Nat) (l0_1 : List Int) (r : Bool) (w : World) (hr0_1 : Kd.C (Kd.int .i64) w A0_1 l0_1.length l0_1) (hc0_1 : l0_1.length ≤ c0_1) (h : spec_IsRegular.f k a0_0 l0_1 = some r) :
  Calls Try.prog 14 #[.agg #[.int .i64 a0_0, .slice A0_1 l0_1.length c0_1]] w fun e w' => e = .returned (.bool r) ∧ Below w.heap.size w w' := by
 have hu27 := Try.underlying27
 have HR0_1 := Aside0.mk hr0_1
 have HC0_1 := Aside0.mk hc0_1
 clear hr0_1 hc0_1
 have HB := Aside0.mk (Below.refl w.heap.size w)
 have H : ((spec_IsBinary.f k a0_0 l0_1).bind fun t453 => (if t453 = true then ((spec_IsTernary.f k a0_0 l0_1).bind fun t454 => (some t454)) else (some false))) = some r := h
 clear h
 replace H := bS H
 obtain ⟨t453, A2, H⟩ := H
 by_cases c3 : t453 = true
 ·subst c3
  replace H := iP H
  replace H := bS H
  obtain ⟨t454, A4, H⟩ := H
  obtain rfl := Option.some.inj H
  go_enter Try.func14, Try.ntmps14
  go_wp2_with (first | ((with_reducible refine gate_dst (N := 1) rfl ?_); refine box_event ?hg (N := 1) ?hd (cs := #[.int .i64 a0_0, .slice A0_1 l0_1.length c0_1]) (t := 27) ?hr ?_; (case hd => rfl); (case hg => rfl); (case hr => first | (go_simp; done) | (go_simp; rfl)); intro gb452 hg w5 hbox hb; have BK452 := Aside0.mk (hbox); have GW452 := Aside0.mk (bZ (w := w) hg); have GE452 := Aside0.mk (bZ (w := w) hg); replace HB := Aside0.mk (below_step pB hb); clear hb hbox hg; obtain ⟨hcz6_0, hcz6_1, hfz6_0, hfz6_1⟩ := bc2 BK452.out) | ((with_reducible refine gate_callee (f := 8) rfl ?_); refine goesL_ (some 4) rfl rfl Try.func8 kr rfl #[.agg #[.int .i64 a0_0, .slice A0_1 l0_1.length c0_1]] rfl p5 ?_; (with_reducible refine (spec_IsBinary.calls k a0_0 _ _ l0_1 true _ ?side1 ?side2 A2.out).mono ?_); (case side1 => exact pC (Kd.C_below HR0_1.out HB.out)); (case side2 => exact HC0_1.out); rintro e w7 ⟨rfl, hb⟩; refine ⟨_, rfl, ?_⟩; replace BK452 := Aside0.mk (bB BK452.out hb); replace HB := Aside0.mk (below_step pB hb); (try clear hb); (try clear hb2); (try clear hk); (try clear hi); obtain ⟨hcz8_0, hcz8_1, hfz8_0, hfz8_1⟩ := bc2 BK452.out) | (go_at_call 12; (with_reducible refine (spec_IsTernary.calls k a0_0 _ _ l0_1 t454 _ ?side1 ?side2 A4.out).mono ?_); (case side1 => exact pC (Kd.C_below HR0_1.out HB.out)); (case side2 => exact HC0_1.out); rintro e w9 ⟨rfl, hb⟩; replace BK452 := Aside0.mk (bB BK452.out hb); replace HB := Aside0.mk (below_step pB hb); (try clear hb); (try clear hb2); (try clear hk); (try clear hi)))
  go_ret
  exact ⟨p8, pB⟩
 ·replace c3 := Bool.eq_false_iff.mpr c3
  subst c3
  replace H := iN H
  obtain rfl := Option.some.inj H
  go_enter Try.func14, Try.ntmps14
  go_wp2_with (first | ((with_reducible refine gate_dst (N := 1) rfl ?_); refine box_event ?hg (N := 1) ?hd (cs := #[.int .i64 a0_0, .slice A0_1 l0_1.length c0_1]) (t := 27) ?hr ?_; (case hd => rfl); (case hg => rfl); (case hr => first | (go_simp; done) | (go_simp; rfl)); intro gb452 hg w10 hbox hb; have BK452 := Aside0.mk (hbox); have GW452 := Aside0.mk (bZ (w := w) hg); have GE452 := Aside0.mk (bZ (w := w) hg); replace HB := Aside0.mk (below_step pB hb); clear hb hbox hg; obtain ⟨hcz11_0, hcz11_1, hfz11_0, hfz11_1⟩ := bc2 BK452.out) | ((with_reducible refine gate_callee (f := 8) rfl ?_); refine goesL_ (some 4) rfl rfl Try.func8 kr rfl #[.agg #[.int .i64 a0_0, .slice A0_1 l0_1.length c0_1]] rfl p5 ?_; (with_reducible refine (spec_IsBinary.calls k a0_0 _ _ l0_1 false _ ?side1 ?side2 A2.out).mono ?_); (case side1 => exact pC (Kd.C_below HR0_1.out HB.out)); (case side2 => exact HC0_1.out); rintro e w12 ⟨rfl, hb⟩; refine ⟨_, rfl, ?_⟩; replace BK452 := Aside0.mk (bB BK452.out hb); replace HB := Aside0.mk (below_step pB hb); (try clear hb); (try clear hb2); (try clear hk); (try clear hi)))
  go_ret
  exact ⟨p8, pB⟩
def laws_FnExactIsRegular.f (k : Nat) (a0_0 : Int) (l0_1 : List Int) : Option (Bool) := (laws_szMatroid.f a0_0 l0_1 1048576).bind fun t459 => (if t459 < 0 then (some true) else ((laws_toMatroid.f k a0_0 l0_1).bind fun bt460 => ((spec_IsRegular.f k bt460.1 bt460.2).bind fun t464 => ((laws_toMatroid.f k a0_0 l0_1).bind fun bt465 => ((impl_IsRegular.f k bt465.1 bt465.2).bind fun t470 => (if (t470 != t464) = true then (some false) else ((laws_toMatroid.f k a0_0 l0_1).bind fun bt471 => ((laws_eqMatroid.f k bt465.1 bt465.2 bt471.1 bt471.2).bind fun t475 => (if t475 = true then (some true) else (some false))))))))))
set_option maxHeartbeats 8000000 in
set_option maxRecDepth 100000 in
theorem laws_FnExactIsRegular.calls (k : Nat) (a0_0 : Int) (A0_1 : Option Addr) (c0_1 : Nat) (l0_1 : List Int) (r : Bool) (w : World) (hr0_1 : Kd.C (Kd.int .i64) w A0_1 l0_1.length l0_1) (hc0_1 : l0_1.length ≤ c0_1) (h : laws_FnExactIsRegular.f k a0_0 l0_1 = some r) :
  Calls Try.prog 5 #[.agg #[.int .i64 a0_0, .slice A0_1 l0_1.length c0_1]] w fun e w' => e = .returned (.bool r) ∧ Below w.heap.size w w' := by
 have hu24 := Try.underlying24
 have hu27 := Try.underlying27
 have HR0_1 := Aside0.mk hr0_1
 have HC0_1 := Aside0.mk hc0_1
 clear hr0_1 hc0_1
 have HB := Aside0.mk (Below.refl w.heap.size w)
 have H : ((laws_szMatroid.f a0_0 l0_1 1048576).bind fun t459 => (if t459 < 0 then (some true) else ((laws_toMatroid.f k a0_0 l0_1).bind fun bt460 => ((spec_IsRegular.f k bt460.1 bt460.2).bind fun t464 => ((laws_toMatroid.f k a0_0 l0_1).bind fun bt465 => ((impl_IsRegular.f k bt465.1 bt465.2).bind fun t470 => (if (t470 != t464) = true then (some false) else ((laws_toMatroid.f k a0_0 l0_1).bind fun bt471 => ((laws_eqMatroid.f k bt465.1 bt465.2 bt471.1 bt471.2).bind fun t475 => (if t475 = true then (some true) else (some false))))))))))) = some r := h
 clear h
 replace H := bS H
 obtain ⟨t459, A2, H⟩ := H
 by_cases c3 : t459 < 0
 ·rw [if_pos c3] at H
  have c3b0 : decide (t459 < 0) = true := decide_eq_true c3
  clear c3
  obtain rfl := Option.some.inj H
  go_enter Try.func5, Try.ntmps5
  go_wp2_with (first | ((with_reducible refine gate_dst (N := 1) rfl ?_); refine box_event ?hg (N := 1) ?hd (cs := #[.int .i64 a0_0, .slice A0_1 l0_1.length c0_1]) (t := 24) ?hr ?_; (case hd => rfl); (case hg => rfl); (case hr => first | (go_simp; done) | (go_simp; rfl)); intro gb458 hg w4 hbox hb; have BK458 := Aside0.mk (hbox); have GW458 := Aside0.mk (bZ (w := w) hg); have GE458 := Aside0.mk (bZ (w := w) hg); replace HB := Aside0.mk (below_step pB hb); clear hb hbox hg; obtain ⟨hcz5_0, hcz5_1, hfz5_0, hfz5_1⟩ := bc2 BK458.out) | ((with_reducible refine gate_callee (f := 7) rfl ?_); refine goesL_ (some 9) rfl rfl Try.func7 kr rfl #[.agg #[.int .i64 a0_0, .slice A0_1 l0_1.length c0_1], .int .i64 1048576] rfl p5 ?_; (with_reducible refine (laws_szMatroid.calls a0_0 _ _ l0_1 1048576 t459 _ ?side1 ?side2 A2.out).mono ?_); (case side1 => exact pC (Kd.C_below HR0_1.out HB.out)); (case side2 => exact HC0_1.out); rintro e w6 ⟨rfl, hb⟩; refine ⟨_, rfl, ?_⟩; replace BK458 := Aside0.mk (bB BK458.out hb); replace HB := Aside0.mk (below_step pB hb); (try clear hb); (try clear hb2); (try clear hk); (try clear hi)))
  go_ret
  exact ⟨p8, pB⟩
 ·rw [if_neg c3] at H
  have c3b0 : decide (t459 < 0) = false := decide_eq_false c3
  clear c3
  replace H := Option.bind_eq_some_iff.mp H
  obtain ⟨⟨t460, t461⟩, A70, H⟩ := H
  replace H : ((spec_IsRegular.f k t460 t461).bind fun t464 => ((laws_toMatroid.f k a0_0 l0_1).bind fun bt465 => ((impl_IsRegular.f k bt465.1 bt465.2).bind fun t470 => (if (t470 != t464) = true then (some false) else ((laws_toMatroid.f k a0_0 l0_1).bind fun bt471 => ((laws_eqMatroid.f k bt465.1 bt465.2 bt471.1 bt471.2).bind fun t475 => (if t475 = true then (some true) else (some false)))))))) = some r := H
  have A7 := Aside0.mk A70
  clear A70
  replace H := bS H
  obtain ⟨t464, A8, H⟩ := H
  replace H := Option.bind_eq_some_iff.mp H
  obtain ⟨⟨t465, t466⟩, A90, H⟩ := H
  replace H : ((impl_IsRegular.f k t465 t466).bind fun t470 => (if (t470 != t464) = true then (some false) else ((laws_toMatroid.f k a0_0 l0_1).bind fun bt471 => ((laws_eqMatroid.f k t465 t466 bt471.1 bt471.2).bind fun t475 => (if t475 = true then (some true) else (some false)))))) = some r := H
  have A9 := Aside0.mk A90
  clear A90
  replace H := bS H
  obtain ⟨t470, A10, H⟩ := H
  by_cases c11 : (t470 != t464) = true
  ·rw [if_pos c11] at H
   have c11b0 : (t470 != t464) = true := c11
   (try (have c11b1 : decide (t470 = t464) = false := by simpa using c11))
   (try (have c11b2 : (t470 == t464) = false := by simpa using c11))
   (try (have c11b3 : ¬ (t470 = t464) := by simpa using c11))
   clear c11
   obtain rfl := Option.some.inj H
   go_enter Try.func5, Try.ntmps5
   go_wp2_with (first | ((with_reducible refine gate_dst (N := 1) rfl ?_); refine box_event ?hg (N := 1) ?hd (cs := #[.int .i64 a0_0, .slice A0_1 l0_1.length c0_1]) (t := 24) ?hr ?_; (case hd => rfl); (case hg => rfl); (case hr => first | (go_simp; done) | (go_simp; rfl)); intro gb458 hg w12 hbox hb; have BK458 := Aside0.mk (hbox); have GW458 := Aside0.mk (bZ (w := w) hg); have GE458 := Aside0.mk (bZ (w := w) hg); replace HB := Aside0.mk (below_step pB hb); clear hb hbox hg; obtain ⟨hcz13_0, hcz13_1, hfz13_0, hfz13_1⟩ := bc2 BK458.out) | ((with_reducible refine gate_callee (f := 7) rfl ?_); refine goesL_ (some 9) rfl rfl Try.func7 kr rfl #[.agg #[.int .i64 a0_0, .slice A0_1 l0_1.length c0_1], .int .i64 1048576] rfl p5 ?_; (with_reducible refine (laws_szMatroid.calls a0_0 _ _ l0_1 1048576 t459 _ ?side1 ?side2 A2.out).mono ?_); (case side1 => exact pC (Kd.C_below HR0_1.out HB.out)); (case side2 => exact HC0_1.out); rintro e w14 ⟨rfl, hb⟩; refine ⟨_, rfl, ?_⟩; replace BK458 := Aside0.mk (bB BK458.out hb); replace HB := Aside0.mk (below_step pB hb); (try clear hb); (try clear hb2); (try clear hk); (try clear hi); obtain ⟨hcz15_0, hcz15_1, hfz15_0, hfz15_1⟩ := bc2 BK458.out) | ((with_reducible refine gate_callee (f := 9) rfl ?_); refine goesL_ (some 13) rfl rfl Try.func9 kr rfl #[.agg #[.int .i64 a0_0, .slice A0_1 l0_1.length c0_1]] rfl p5 ?_; (with_reducible refine (laws_toMatroid.calls k a0_0 _ _ l0_1 t460 t461 _ ?side1 ?side2 A7.out).mono ?_); (case side1 => exact pC (Kd.C_below HR0_1.out HB.out)); (case side2 => exact HC0_1.out); rintro e w16 ⟨v462, rfl, ho0, hb⟩; refine ⟨_, rfl, ?_⟩; have HO463 := Aside0.mk (Kd.R_lower ho0 (below_size pB)); replace BK458 := Aside0.mk (bB BK458.out hb); replace HB := Aside0.mk (below_step pB hb); (try clear hb); (try clear hb2); (try clear hk); (try clear hi); (try clear ho0); obtain ⟨Ao17, co17, eo17⟩ := Kd.R_slice HO463.out; subst eo17) | ((with_reducible refine gate_callee (f := 14) rfl ?_); refine goesL_ (some 14) rfl rfl Try.func14 kr rfl #[.agg #[.int .i64 t460, .slice Ao17 t461.length co17]] rfl p5 ?_; (with_reducible refine (spec_IsRegular.calls k t460 _ _ t461 t464 _ ?side1 ?side2 A8.out).mono ?_); (case side1 => repeat (first | exact (Kd.R_reads' HO463.out).2.2 | (with_reducible refine Kd.C_alloc ?_ _) | (with_reducible refine Kd.C_drewN ?_ _) | (with_reducible refine Kd.C_drew ?_))); (case side2 => exact (Kd.R_reads' HO463.out).2.1); rintro e w18 ⟨rfl, hb⟩; refine ⟨_, rfl, ?_⟩; replace HO463 := Aside0.mk (Kd.R_below (pR HO463.out) hb); replace BK458 := Aside0.mk (bB BK458.out hb); replace HB := Aside0.mk (below_step pB hb); (try clear hb); (try clear hb2); (try clear hk); (try clear hi); obtain ⟨hcz19_0, hcz19_1, hfz19_0, hfz19_1⟩ := bc2 BK458.out) | ((with_reducible refine gate_callee (f := 9) rfl ?_); refine goesL_ (some 16) rfl rfl Try.func9 kr rfl #[.agg #[.int .i64 a0_0, .slice A0_1 l0_1.length c0_1]] rfl p5 ?_; (with_reducible refine (laws_toMatroid.calls k a0_0 _ _ l0_1 t465 t466 _ ?side1 ?side2 A9.out).mono ?_); (case side1 => exact pC (Kd.C_below HR0_1.out HB.out)); (case side2 => exact HC0_1.out); rintro e w20 ⟨v467, rfl, ho0, hb⟩; refine ⟨_, rfl, ?_⟩; have HO468 := Aside0.mk (Kd.R_lower (Kd.R_new' ho0 (Kd.R_lt (pR HO463.out))) (below_size pB)); replace HO463 := Aside0.mk (Kd.R_elder' (pR HO463.out) (Kd.R_base ho0) hb); replace BK458 := Aside0.mk (bB BK458.out hb); replace HB := Aside0.mk (below_step pB hb); (try clear hb); (try clear hb2); (try clear hk); (try clear hi); (try clear ho0)) | ((with_reducible refine gate_dst (N := 5) rfl ?_); refine box_event ?hg (N := 5) ?hd (cs := #[.int .i64 0, .slice none 0 0]) (t := 27) ?hr ?_; (case hd => rfl); (case hg => rfl); (case hr => first | (go_simp; done) | (go_simp; rfl)); intro gb469 hg w21 hbox hb; replace HO463 := Aside0.mk (Kd.R_below (pR HO463.out) hb); replace HO468 := Aside0.mk (Kd.R_below (pR HO468.out) hb); have BK469 := Aside0.mk (hbox); have GW469 := Aside0.mk (bZ (w := w) hg); have GE469 := Aside0.mk (bZ (w := w) hg); replace HB := Aside0.mk (below_step pB hb); have NB458_469 := Aside0.mk (bL BK458.out hg); have NB469_458 := Aside0.mk (bG BK458.out hg); replace BK458 := Aside0.mk (bB BK458.out hb); clear hb hbox hg; have hnb22 := NB469_458.out; have hnc22 := NB458_469.out; obtain ⟨hcz23_0, hcz23_1, hfz23_0, hfz23_1⟩ := bc2 BK469.out; obtain ⟨Ao24, co24, eo24⟩ := Kd.R_slice HO468.out; subst eo24) | ((with_reducible refine gate_callee (f := 15) rfl ?_); refine goesL_ (some 18) rfl rfl Try.func15 kr rfl #[.agg #[.int .i64 t465, .slice Ao24 t466.length co24]] rfl p5 ?_; (with_reducible refine (impl_IsRegular.calls k t465 _ _ t466 t470 _ ?side1 ?side2 A10.out).mono ?_); (case side1 => refine (Kd.R_reads' (e := 3) (base := w.heap.size) (ok := fun k_ => (True ∧ some k_ ≠ (.slice Ao17 t461.length co17 : Value).ownBlock)) (n := t466.length) (c := co24) ?_).2.2; exact (by (with_reducible repeat (first | apply Kd.R_alloc | apply Kd.R_drewN | apply Kd.R_drew)); exact (Kd.R_mono (Kd.R_far (p := ⟨gb469, 1, none⟩) (Kd.R_far (p := ⟨gb469, 0, none⟩) (Kd.R_types HO468.out BK469.out (by decide)) (fun _ hk => hk.2) (.int .i64 t465)) (fun _ hk => hk.2) (.slice Ao24 t466.length co24)) (fun _ h_ => h_.1)))); (case side2 => exact (Kd.R_reads' HO468.out).2.1); rintro e w25 ⟨rfl, hb⟩; refine ⟨_, rfl, ?_⟩; replace HO463 := Aside0.mk (Kd.R_below (by (with_reducible repeat (first | apply Kd.R_alloc | apply Kd.R_drewN | apply Kd.R_drew)); exact (Kd.R_mono (Kd.R_far (p := ⟨gb469, 1, none⟩) (Kd.R_far (p := ⟨gb469, 0, none⟩) (Kd.R_types HO463.out BK469.out (by decide)) (fun _ hk => hk.2) (.int .i64 t465)) (fun _ hk => hk.2) (.slice Ao24 t466.length co24)) (fun _ h_ => h_.1))) hb); replace HO468 := Aside0.mk (Kd.R_below (by (with_reducible repeat (first | apply Kd.R_alloc | apply Kd.R_drewN | apply Kd.R_drew)); exact (Kd.R_mono (Kd.R_far (p := ⟨gb469, 1, none⟩) (Kd.R_far (p := ⟨gb469, 0, none⟩) (Kd.R_types HO468.out BK469.out (by decide)) (fun _ hk => hk.2) (.int .i64 t465)) (fun _ hk => hk.2) (.slice Ao24 t466.length co24)) (fun _ h_ => h_.1))) hb); replace BK458 := Aside0.mk (blk_below (g := gb458) (o := .cells #[.int .i64 a0_0, .slice A0_1 l0_1.length c0_1] 24 (0, 0)) (by (with_reducible repeat (first | refine blk_drewN ?_ _ | refine blk_drew ?_ | refine blk_alloc ?_ _)); refine blk_far ?_ NB458_469.out _; (with_reducible repeat (first | refine blk_drewN ?_ _ | refine blk_drew ?_ | refine blk_alloc ?_ _)); refine blk_far ?_ NB458_469.out _; exact pK BK458.out) hb); replace BK469 := Aside0.mk (blk_below (g := gb469) (o := .cells #[.int .i64 t465, .slice Ao24 t466.length co24] 27 (0, 0)) (by (with_reducible repeat (first | refine blk_drewN ?_ _ | refine blk_drew ?_ | refine blk_alloc ?_ _)); refine blk_put (cs := #[.int .i64 t465, .slice none 0 0]) ?_ 1 _ rfl; (with_reducible repeat (first | refine blk_drewN ?_ _ | refine blk_drew ?_ | refine blk_alloc ?_ _)); refine blk_put (cs := #[.int .i64 0, .slice none 0 0]) ?_ 0 _ rfl; exact pK BK469.out) hb); replace HB := Aside0.mk (below_step pB hb); (try clear hb); (try clear hb2); (try clear hk); (try clear hi)))
   go_ret
   exact ⟨p8, pB⟩
  ·rw [if_neg c11] at H
   have c11b0 : (t470 != t464) = false := by simpa using c11
   (try (have c11b1 : decide (t470 = t464) = true := by simpa using c11))
   (try (have c11b2 : (t470 == t464) = true := by simpa using c11))
   clear c11
   replace H := Option.bind_eq_some_iff.mp H
   obtain ⟨⟨t471, t472⟩, A260, H⟩ := H
   replace H : ((laws_eqMatroid.f k t465 t466 t471 t472).bind fun t475 => (if t475 = true then (some true) else (some false))) = some r := H
   have A26 := Aside0.mk A260
   clear A260
   replace H := bS H
   obtain ⟨t475, A27, H⟩ := H
   by_cases c28 : t475 = true
   ·subst c28
    replace H := iP H
    obtain rfl := Option.some.inj H
    go_enter Try.func5, Try.ntmps5
    try go_wp2_with (first | ((with_reducible refine gate_dst (N := 1) rfl ?_); refine box_event ?hg (N := 1) ?hd (cs := #[.int .i64 a0_0, .slice A0_1 l0_1.length c0_1]) (t := 24) ?hr ?_; (case hd => rfl); (case hg => rfl); (case hr => first | (go_simp; done) | (go_simp; rfl)); intro gb458 hg w29 hbox hb; have BK458 := Aside0.mk (hbox); have GW458 := Aside0.mk (bZ (w := w) hg); have GE458 := Aside0.mk (bZ (w := w) hg); replace HB := Aside0.mk (below_step pB hb); clear hb hbox hg; obtain ⟨hcz30_0, hcz30_1, hfz30_0, hfz30_1⟩ := bc2 BK458.out) | ((with_reducible refine gate_callee (f := 7) rfl ?_); refine goesL_ (some 9) rfl rfl Try.func7 kr rfl #[.agg #[.int .i64 a0_0, .slice A0_1 l0_1.length c0_1], .int .i64 1048576] rfl p5 ?_; (with_reducible refine (laws_szMatroid.calls a0_0 _ _ l0_1 1048576 t459 _ ?side1 ?side2 A2.out).mono ?_); (case side1 => exact pC (Kd.C_below HR0_1.out HB.out)); (case side2 => exact HC0_1.out); rintro e w31 ⟨rfl, hb⟩; refine ⟨_, rfl, ?_⟩; replace BK458 := Aside0.mk (bB BK458.out hb); replace HB := Aside0.mk (below_step pB hb); (try clear hb); (try clear hb2); (try clear hk); (try clear hi); obtain ⟨hcz32_0, hcz32_1, hfz32_0, hfz32_1⟩ := bc2 BK458.out) | ((with_reducible refine gate_callee (f := 9) rfl ?_); refine goesL_ (some 13) rfl rfl Try.func9 kr rfl #[.agg #[.int .i64 a0_0, .slice A0_1 l0_1.length c0_1]] rfl p5 ?_; (with_reducible refine (laws_toMatroid.calls k a0_0 _ _ l0_1 t460 t461 _ ?side1 ?side2 A7.out).mono ?_); (case side1 => exact pC (Kd.C_below HR0_1.out HB.out)); (case side2 => exact HC0_1.out); rintro e w33 ⟨v462, rfl, ho0, hb⟩; refine ⟨_, rfl, ?_⟩; have HO463 := Aside0.mk (Kd.R_lower ho0 (below_size pB)); replace BK458 := Aside0.mk (bB BK458.out hb); replace HB := Aside0.mk (below_step pB hb); (try clear hb); (try clear hb2); (try clear hk); (try clear hi); (try clear ho0); obtain ⟨Ao34, co34, eo34⟩ := Kd.R_slice HO463.out; subst eo34) | ((with_reducible refine gate_callee (f := 14) rfl ?_); refine goesL_ (some 14) rfl rfl Try.func14 kr rfl #[.agg #[.int .i64 t460, .slice Ao34 t461.length co34]] rfl p5 ?_; (with_reducible refine (spec_IsRegular.calls k t460 _ _ t461 t464 _ ?side1 ?side2 A8.out).mono ?_); (case side1 => repeat (first | exact (Kd.R_reads' HO463.out).2.2 | (with_reducible refine Kd.C_alloc ?_ _) | (with_reducible refine Kd.C_drewN ?_ _) | (with_reducible refine Kd.C_drew ?_))); (case side2 => exact (Kd.R_reads' HO463.out).2.1); rintro e w35 ⟨rfl, hb⟩; refine ⟨_, rfl, ?_⟩; replace HO463 := Aside0.mk (Kd.R_below (pR HO463.out) hb); replace BK458 := Aside0.mk (bB BK458.out hb); replace HB := Aside0.mk (below_step pB hb); (try clear hb); (try clear hb2); (try clear hk); (try clear hi); obtain ⟨hcz36_0, hcz36_1, hfz36_0, hfz36_1⟩ := bc2 BK458.out) | ((with_reducible refine gate_callee (f := 9) rfl ?_); refine goesL_ (some 16) rfl rfl Try.func9 kr rfl #[.agg #[.int .i64 a0_0, .slice A0_1 l0_1.length c0_1]] rfl p5 ?_; (with_reducible refine (laws_toMatroid.calls k a0_0 _ _ l0_1 t465 t466 _ ?side1 ?side2 A9.out).mono ?_); (case side1 => exact pC (Kd.C_below HR0_1.out HB.out)); (case side2 => exact HC0_1.out); rintro e w37 ⟨v467, rfl, ho0, hb⟩; refine ⟨_, rfl, ?_⟩; have HO468 := Aside0.mk (Kd.R_lower (Kd.R_new' ho0 (Kd.R_lt (pR HO463.out))) (below_size pB)); replace HO463 := Aside0.mk (Kd.R_elder' (pR HO463.out) (Kd.R_base ho0) hb); replace BK458 := Aside0.mk (bB BK458.out hb); replace HB := Aside0.mk (below_step pB hb); (try clear hb); (try clear hb2); (try clear hk); (try clear hi); (try clear ho0)) | ((with_reducible refine gate_dst (N := 5) rfl ?_); refine box_event ?hg (N := 5) ?hd (cs := #[.int .i64 0, .slice none 0 0]) (t := 27) ?hr ?_; (case hd => rfl); (case hg => rfl); (case hr => first | (go_simp; done) | (go_simp; rfl)); intro gb469 hg w38 hbox hb; replace HO463 := Aside0.mk (Kd.R_below (pR HO463.out) hb); replace HO468 := Aside0.mk (Kd.R_below (pR HO468.out) hb); have BK469 := Aside0.mk (hbox); have GW469 := Aside0.mk (bZ (w := w) hg); have GE469 := Aside0.mk (bZ (w := w) hg); replace HB := Aside0.mk (below_step pB hb); have NB458_469 := Aside0.mk (bL BK458.out hg); have NB469_458 := Aside0.mk (bG BK458.out hg); replace BK458 := Aside0.mk (bB BK458.out hb); clear hb hbox hg; have hnb39 := NB469_458.out; have hnc39 := NB458_469.out; obtain ⟨hcz40_0, hcz40_1, hfz40_0, hfz40_1⟩ := bc2 BK469.out; obtain ⟨Ao41, co41, eo41⟩ := Kd.R_slice HO468.out; subst eo41) | ((with_reducible refine gate_callee (f := 15) rfl ?_); refine goesL_ (some 18) rfl rfl Try.func15 kr rfl #[.agg #[.int .i64 t465, .slice Ao41 t466.length co41]] rfl p5 ?_; (with_reducible refine (impl_IsRegular.calls k t465 _ _ t466 t470 _ ?side1 ?side2 A10.out).mono ?_); (case side1 => refine (Kd.R_reads' (e := 3) (base := w.heap.size) (ok := fun k_ => (True ∧ some k_ ≠ (.slice Ao34 t461.length co34 : Value).ownBlock)) (n := t466.length) (c := co41) ?_).2.2; exact (by (with_reducible repeat (first | apply Kd.R_alloc | apply Kd.R_drewN | apply Kd.R_drew)); exact (Kd.R_mono (Kd.R_far (p := ⟨gb469, 1, none⟩) (Kd.R_far (p := ⟨gb469, 0, none⟩) (Kd.R_types HO468.out BK469.out (by decide)) (fun _ hk => hk.2) (.int .i64 t465)) (fun _ hk => hk.2) (.slice Ao41 t466.length co41)) (fun _ h_ => h_.1)))); (case side2 => exact (Kd.R_reads' HO468.out).2.1); rintro e w42 ⟨rfl, hb⟩; refine ⟨_, rfl, ?_⟩; replace HO463 := Aside0.mk (Kd.R_below (by (with_reducible repeat (first | apply Kd.R_alloc | apply Kd.R_drewN | apply Kd.R_drew)); exact (Kd.R_mono (Kd.R_far (p := ⟨gb469, 1, none⟩) (Kd.R_far (p := ⟨gb469, 0, none⟩) (Kd.R_types HO463.out BK469.out (by decide)) (fun _ hk => hk.2) (.int .i64 t465)) (fun _ hk => hk.2) (.slice Ao41 t466.length co41)) (fun _ h_ => h_.1))) hb); replace HO468 := Aside0.mk (Kd.R_below (by (with_reducible repeat (first | apply Kd.R_alloc | apply Kd.R_drewN | apply Kd.R_drew)); exact (Kd.R_mono (Kd.R_far (p := ⟨gb469, 1, none⟩) (Kd.R_far (p := ⟨gb469, 0, none⟩) (Kd.R_types HO468.out BK469.out (by decide)) (fun _ hk => hk.2) (.int .i64 t465)) (fun _ hk => hk.2) (.slice Ao41 t466.length co41)) (fun _ h_ => h_.1))) hb); replace BK458 := Aside0.mk (blk_below (g := gb458) (o := .cells #[.int .i64 a0_0, .slice A0_1 l0_1.length c0_1] 24 (0, 0)) (by (with_reducible repeat (first | refine blk_drewN ?_ _ | refine blk_drew ?_ | refine blk_alloc ?_ _)); refine blk_far ?_ NB458_469.out _; (with_reducible repeat (first | refine blk_drewN ?_ _ | refine blk_drew ?_ | refine blk_alloc ?_ _)); refine blk_far ?_ NB458_469.out _; exact pK BK458.out) hb); replace BK469 := Aside0.mk (blk_below (g := gb469) (o := .cells #[.int .i64 t465, .slice Ao41 t466.length co41] 27 (0, 0)) (by (with_reducible repeat (first | refine blk_drewN ?_ _ | refine blk_drew ?_ | refine blk_alloc ?_ _)); refine blk_put (cs := #[.int .i64 t465, .slice none 0 0]) ?_ 1 _ rfl; (with_reducible repeat (first | refine blk_drewN ?_ _ | refine blk_drew ?_ | refine blk_alloc ?_ _)); refine blk_put (cs := #[.int .i64 0, .slice none 0 0]) ?_ 0 _ rfl; exact pK BK469.out) hb); replace HB := Aside0.mk (below_step pB hb); (try clear hb); (try clear hb2); (try clear hk); (try clear hi)))
    replace HO463 := Aside0.mk (Kd.R_drew HO463.out)
    replace HO468 := Aside0.mk (Kd.R_drew HO468.out)
    replace BK458 := Aside0.mk (blk_drew BK458.out)
    replace BK469 := Aside0.mk (blk_drew BK469.out)
    replace HB := Aside0.mk (below_drew1 HB.out)
    refine start_ (n := 5) (S := fun w' => w'.cell? ⟨gb469, 0, none⟩ = some (.int .i64 t465) ∧ w'.cell? ⟨gb469, 1, none⟩ = some (.slice Ao41 t466.length co41) ∧ w'.cell? ⟨gb458, 0, none⟩ = some (.int .i64 a0_0) ∧ w'.cell? ⟨gb458, 1, none⟩ = some (.slice A0_1 l0_1.length c0_1)) (ds := []) #[false, false, false, false, false] kr rfl rfl ⟨(blk_cell BK469.out 0).trans rfl, (blk_cell BK469.out 1).trans rfl, (blk_cell BK458.out 0).trans rfl, (blk_cell BK458.out 1).trans rfl⟩ (fun hHeld => ?_)
    generalize w42.drew = w43 at HO463 HO468 BK458 BK469 HB hHeld ⊢
    refine tA4 0 22 kr hHeld ?_
    refine tA4 1 23 kr hHeld ?_
    refine one_ (i := 2) (N := some 24) #[true, true, true, false, false] rfl rfl kr (by decide) (fun K hK => ?_)
    refine goes_ Try.func9 kr rfl #[.agg #[.int .i64 a0_0, .slice A0_1 l0_1.length c0_1]] (by rfl) rfl rfl p5 ?_
    with_reducible refine (laws_toMatroid.calls k a0_0 _ _ l0_1 t471 t472 _ ?side1 ?side2 A26.out).mono ?_
    (case side1 => exact pC (Kd.C_below HR0_1.out HB.out))
    (case side2 => exact HC0_1.out)
    rintro e w44 ⟨v473, rfl, ho0, hb⟩
    refine ⟨_, rfl, ?_⟩
    have HO474 := Aside0.mk (Kd.R_lower (Kd.R_new' (Kd.R_new' ho0 (Kd.R_lt (pR HO463.out))) (Kd.R_lt (pR HO468.out))) (below_size pB))
    replace HO463 := Aside0.mk (Kd.R_elder' (pR HO463.out) (Kd.R_base ho0) hb)
    replace HO468 := Aside0.mk (Kd.R_elder' (pR HO468.out) (Kd.R_base ho0) hb)
    replace BK458 := Aside0.mk (bB BK458.out hb)
    replace BK469 := Aside0.mk (bB BK469.out hb)
    replace HB := Aside0.mk (below_step pB hb)
    (try clear hb)
    (try clear hb2)
    (try clear hk)
    (try clear hi)
    (try clear ho0)
    obtain ⟨Ao45, co45, eo45⟩ := Kd.R_slice HO474.out
    (first | subst eo45 | (injection eo45 with f1_ f2_ f3_; have f4_ := f1_.symm; have f5_ := f3_.symm; clear f1_ f2_ f3_; subst f4_; subst f5_))
    refine hK.out _ _ ⟨(blk_cell BK469.out 0).trans rfl, (blk_cell BK469.out 1).trans rfl, (blk_cell BK458.out 0).trans rfl, (blk_cell BK458.out 1).trans rfl⟩ (fun hHeld => ?_)
    clear hK K
    refine norm_ (a' := ?_) ?_ ?_
    rotate_left
    ·show Act.put _ (some 24) _ = _
     simp only [Act.put, List.setIfInBounds_toArray, List.set_cons_zero, List.set_cons_succ, i64_w, i32_w]
     rfl
    refine one_ (i := 3) (N := some 25) #[true, true, true, true, false] rfl rfl kr (by decide) (fun K hK => ?_)
    refine goes_ Try.func11 kr rfl #[.agg #[.int .i64 t465, .slice Ao41 t466.length co41], .agg #[.int .i64 t471, .slice Ao45 t472.length co45]] (by rfl) rfl rfl p5 ?_
    with_reducible refine (laws_eqMatroid.calls k t465 _ _ t466 t471 _ _ t472 true _ ?side1 ?side2 ?side3 ?side4 A27.out).mono ?_
    (case side1 => repeat (first | exact (Kd.R_reads' HO468.out).2.2 | (with_reducible refine Kd.C_alloc ?_ _) | (with_reducible refine Kd.C_drewN ?_ _) | (with_reducible refine Kd.C_drew ?_)))
    (case side2 => exact (Kd.R_reads' HO468.out).2.1)
    (case side3 => repeat (first | exact (Kd.R_reads' HO474.out).2.2 | (with_reducible refine Kd.C_alloc ?_ _) | (with_reducible refine Kd.C_drewN ?_ _) | (with_reducible refine Kd.C_drew ?_)))
    (case side4 => exact (Kd.R_reads' HO474.out).2.1)
    rintro e w46 ⟨rfl, hb⟩
    refine ⟨_, rfl, ?_⟩
    replace HO463 := Aside0.mk (Kd.R_below (pR HO463.out) hb)
    replace HO468 := Aside0.mk (Kd.R_below (pR HO468.out) hb)
    replace HO474 := Aside0.mk (Kd.R_below (pR HO474.out) hb)
    replace BK458 := Aside0.mk (bB BK458.out hb)
    replace BK469 := Aside0.mk (bB BK469.out hb)
    replace HB := Aside0.mk (below_step pB hb)
    (try clear hb)
    (try clear hb2)
    (try clear hk)
    (try clear hi)
    refine hK.out _ _ ⟨(blk_cell BK469.out 0).trans rfl, (blk_cell BK469.out 1).trans rfl, (blk_cell BK458.out 0).trans rfl, (blk_cell BK458.out 1).trans rfl⟩ (fun hHeld => ?_)
    clear hK K
    refine norm_ (a' := ?_) ?_ ?_
    rotate_left
    ·show Act.put _ (some 25) _ = _
     simp only [Act.put, List.setIfInBounds_toArray, List.set_cons_zero, List.set_cons_succ, i64_w, i32_w]
     rfl
    refine pA 4 26 kr ?_
    refine done_ kr ?_
    try go_wp2
    go_ret
    exact ⟨p8, pB⟩
   ·replace c28 := Bool.eq_false_iff.mpr c28
    subst c28
    replace H := iN H
    obtain rfl := Option.some.inj H
    go_enter Try.func5, Try.ntmps5
    try go_wp2_with (first | ((with_reducible refine gate_dst (N := 1) rfl ?_); refine box_event ?hg (N := 1) ?hd (cs := #[.int .i64 a0_0, .slice A0_1 l0_1.length c0_1]) (t := 24) ?hr ?_; (case hd => rfl); (case hg => rfl); (case hr => first | (go_simp; done) | (go_simp; rfl)); intro gb458 hg w47 hbox hb; have BK458 := Aside0.mk (hbox); have GW458 := Aside0.mk (bZ (w := w) hg); have GE458 := Aside0.mk (bZ (w := w) hg); replace HB := Aside0.mk (below_step pB hb); clear hb hbox hg; obtain ⟨hcz48_0, hcz48_1, hfz48_0, hfz48_1⟩ := bc2 BK458.out) | ((with_reducible refine gate_callee (f := 7) rfl ?_); refine goesL_ (some 9) rfl rfl Try.func7 kr rfl #[.agg #[.int .i64 a0_0, .slice A0_1 l0_1.length c0_1], .int .i64 1048576] rfl p5 ?_; (with_reducible refine (laws_szMatroid.calls a0_0 _ _ l0_1 1048576 t459 _ ?side1 ?side2 A2.out).mono ?_); (case side1 => exact pC (Kd.C_below HR0_1.out HB.out)); (case side2 => exact HC0_1.out); rintro e w49 ⟨rfl, hb⟩; refine ⟨_, rfl, ?_⟩; replace BK458 := Aside0.mk (bB BK458.out hb); replace HB := Aside0.mk (below_step pB hb); (try clear hb); (try clear hb2); (try clear hk); (try clear hi); obtain ⟨hcz50_0, hcz50_1, hfz50_0, hfz50_1⟩ := bc2 BK458.out) | ((with_reducible refine gate_callee (f := 9) rfl ?_); refine goesL_ (some 13) rfl rfl Try.func9 kr rfl #[.agg #[.int .i64 a0_0, .slice A0_1 l0_1.length c0_1]] rfl p5 ?_; (with_reducible refine (laws_toMatroid.calls k a0_0 _ _ l0_1 t460 t461 _ ?side1 ?side2 A7.out).mono ?_); (case side1 => exact pC (Kd.C_below HR0_1.out HB.out)); (case side2 => exact HC0_1.out); rintro e w51 ⟨v462, rfl, ho0, hb⟩; refine ⟨_, rfl, ?_⟩; have HO463 := Aside0.mk (Kd.R_lower ho0 (below_size pB)); replace BK458 := Aside0.mk (bB BK458.out hb); replace HB := Aside0.mk (below_step pB hb); (try clear hb); (try clear hb2); (try clear hk); (try clear hi); (try clear ho0); obtain ⟨Ao52, co52, eo52⟩ := Kd.R_slice HO463.out; subst eo52) | ((with_reducible refine gate_callee (f := 14) rfl ?_); refine goesL_ (some 14) rfl rfl Try.func14 kr rfl #[.agg #[.int .i64 t460, .slice Ao52 t461.length co52]] rfl p5 ?_; (with_reducible refine (spec_IsRegular.calls k t460 _ _ t461 t464 _ ?side1 ?side2 A8.out).mono ?_); (case side1 => repeat (first | exact (Kd.R_reads' HO463.out).2.2 | (with_reducible refine Kd.C_alloc ?_ _) | (with_reducible refine Kd.C_drewN ?_ _) | (with_reducible refine Kd.C_drew ?_))); (case side2 => exact (Kd.R_reads' HO463.out).2.1); rintro e w53 ⟨rfl, hb⟩; refine ⟨_, rfl, ?_⟩; replace HO463 := Aside0.mk (Kd.R_below (pR HO463.out) hb); replace BK458 := Aside0.mk (bB BK458.out hb); replace HB := Aside0.mk (below_step pB hb); (try clear hb); (try clear hb2); (try clear hk); (try clear hi); obtain ⟨hcz54_0, hcz54_1, hfz54_0, hfz54_1⟩ := bc2 BK458.out) | ((with_reducible refine gate_callee (f := 9) rfl ?_); refine goesL_ (some 16) rfl rfl Try.func9 kr rfl #[.agg #[.int .i64 a0_0, .slice A0_1 l0_1.length c0_1]] rfl p5 ?_; (with_reducible refine (laws_toMatroid.calls k a0_0 _ _ l0_1 t465 t466 _ ?side1 ?side2 A9.out).mono ?_); (case side1 => exact pC (Kd.C_below HR0_1.out HB.out)); (case side2 => exact HC0_1.out); rintro e w55 ⟨v467, rfl, ho0, hb⟩; refine ⟨_, rfl, ?_⟩; have HO468 := Aside0.mk (Kd.R_lower (Kd.R_new' ho0 (Kd.R_lt (pR HO463.out))) (below_size pB)); replace HO463 := Aside0.mk (Kd.R_elder' (pR HO463.out) (Kd.R_base ho0) hb); replace BK458 := Aside0.mk (bB BK458.out hb); replace HB := Aside0.mk (below_step pB hb); (try clear hb); (try clear hb2); (try clear hk); (try clear hi); (try clear ho0)) | ((with_reducible refine gate_dst (N := 5) rfl ?_); refine box_event ?hg (N := 5) ?hd (cs := #[.int .i64 0, .slice none 0 0]) (t := 27) ?hr ?_; (case hd => rfl); (case hg => rfl); (case hr => first | (go_simp; done) | (go_simp; rfl)); intro gb469 hg w56 hbox hb; replace HO463 := Aside0.mk (Kd.R_below (pR HO463.out) hb); replace HO468 := Aside0.mk (Kd.R_below (pR HO468.out) hb); have BK469 := Aside0.mk (hbox); have GW469 := Aside0.mk (bZ (w := w) hg); have GE469 := Aside0.mk (bZ (w := w) hg); replace HB := Aside0.mk (below_step pB hb); have NB458_469 := Aside0.mk (bL BK458.out hg); have NB469_458 := Aside0.mk (bG BK458.out hg); replace BK458 := Aside0.mk (bB BK458.out hb); clear hb hbox hg; have hnb57 := NB469_458.out; have hnc57 := NB458_469.out; obtain ⟨hcz58_0, hcz58_1, hfz58_0, hfz58_1⟩ := bc2 BK469.out; obtain ⟨Ao59, co59, eo59⟩ := Kd.R_slice HO468.out; subst eo59) | ((with_reducible refine gate_callee (f := 15) rfl ?_); refine goesL_ (some 18) rfl rfl Try.func15 kr rfl #[.agg #[.int .i64 t465, .slice Ao59 t466.length co59]] rfl p5 ?_; (with_reducible refine (impl_IsRegular.calls k t465 _ _ t466 t470 _ ?side1 ?side2 A10.out).mono ?_); (case side1 => refine (Kd.R_reads' (e := 3) (base := w.heap.size) (ok := fun k_ => (True ∧ some k_ ≠ (.slice Ao52 t461.length co52 : Value).ownBlock)) (n := t466.length) (c := co59) ?_).2.2; exact (by (with_reducible repeat (first | apply Kd.R_alloc | apply Kd.R_drewN | apply Kd.R_drew)); exact (Kd.R_mono (Kd.R_far (p := ⟨gb469, 1, none⟩) (Kd.R_far (p := ⟨gb469, 0, none⟩) (Kd.R_types HO468.out BK469.out (by decide)) (fun _ hk => hk.2) (.int .i64 t465)) (fun _ hk => hk.2) (.slice Ao59 t466.length co59)) (fun _ h_ => h_.1)))); (case side2 => exact (Kd.R_reads' HO468.out).2.1); rintro e w60 ⟨rfl, hb⟩; refine ⟨_, rfl, ?_⟩; replace HO463 := Aside0.mk (Kd.R_below (by (with_reducible repeat (first | apply Kd.R_alloc | apply Kd.R_drewN | apply Kd.R_drew)); exact (Kd.R_mono (Kd.R_far (p := ⟨gb469, 1, none⟩) (Kd.R_far (p := ⟨gb469, 0, none⟩) (Kd.R_types HO463.out BK469.out (by decide)) (fun _ hk => hk.2) (.int .i64 t465)) (fun _ hk => hk.2) (.slice Ao59 t466.length co59)) (fun _ h_ => h_.1))) hb); replace HO468 := Aside0.mk (Kd.R_below (by (with_reducible repeat (first | apply Kd.R_alloc | apply Kd.R_drewN | apply Kd.R_drew)); exact (Kd.R_mono (Kd.R_far (p := ⟨gb469, 1, none⟩) (Kd.R_far (p := ⟨gb469, 0, none⟩) (Kd.R_types HO468.out BK469.out (by decide)) (fun _ hk => hk.2) (.int .i64 t465)) (fun _ hk => hk.2) (.slice Ao59 t466.length co59)) (fun _ h_ => h_.1))) hb); replace BK458 := Aside0.mk (blk_below (g := gb458) (o := .cells #[.int .i64 a0_0, .slice A0_1 l0_1.length c0_1] 24 (0, 0)) (by (with_reducible repeat (first | refine blk_drewN ?_ _ | refine blk_drew ?_ | refine blk_alloc ?_ _)); refine blk_far ?_ NB458_469.out _; (with_reducible repeat (first | refine blk_drewN ?_ _ | refine blk_drew ?_ | refine blk_alloc ?_ _)); refine blk_far ?_ NB458_469.out _; exact pK BK458.out) hb); replace BK469 := Aside0.mk (blk_below (g := gb469) (o := .cells #[.int .i64 t465, .slice Ao59 t466.length co59] 27 (0, 0)) (by (with_reducible repeat (first | refine blk_drewN ?_ _ | refine blk_drew ?_ | refine blk_alloc ?_ _)); refine blk_put (cs := #[.int .i64 t465, .slice none 0 0]) ?_ 1 _ rfl; (with_reducible repeat (first | refine blk_drewN ?_ _ | refine blk_drew ?_ | refine blk_alloc ?_ _)); refine blk_put (cs := #[.int .i64 0, .slice none 0 0]) ?_ 0 _ rfl; exact pK BK469.out) hb); replace HB := Aside0.mk (below_step pB hb); (try clear hb); (try clear hb2); (try clear hk); (try clear hi)))
    replace HO463 := Aside0.mk (Kd.R_drew HO463.out)
    replace HO468 := Aside0.mk (Kd.R_drew HO468.out)
    replace BK458 := Aside0.mk (blk_drew BK458.out)
    replace BK469 := Aside0.mk (blk_drew BK469.out)
    replace HB := Aside0.mk (below_drew1 HB.out)
    refine start_ (n := 5) (S := fun w' => w'.cell? ⟨gb469, 0, none⟩ = some (.int .i64 t465) ∧ w'.cell? ⟨gb469, 1, none⟩ = some (.slice Ao59 t466.length co59) ∧ w'.cell? ⟨gb458, 0, none⟩ = some (.int .i64 a0_0) ∧ w'.cell? ⟨gb458, 1, none⟩ = some (.slice A0_1 l0_1.length c0_1)) (ds := []) #[false, false, false, false, false] kr rfl rfl ⟨(blk_cell BK469.out 0).trans rfl, (blk_cell BK469.out 1).trans rfl, (blk_cell BK458.out 0).trans rfl, (blk_cell BK458.out 1).trans rfl⟩ (fun hHeld => ?_)
    generalize w60.drew = w61 at HO463 HO468 BK458 BK469 HB hHeld ⊢
    refine tA4 0 22 kr hHeld ?_
    refine tA4 1 23 kr hHeld ?_
    refine one_ (i := 2) (N := some 24) #[true, true, true, false, false] rfl rfl kr (by decide) (fun K hK => ?_)
    refine goes_ Try.func9 kr rfl #[.agg #[.int .i64 a0_0, .slice A0_1 l0_1.length c0_1]] (by rfl) rfl rfl p5 ?_
    with_reducible refine (laws_toMatroid.calls k a0_0 _ _ l0_1 t471 t472 _ ?side1 ?side2 A26.out).mono ?_
    (case side1 => exact pC (Kd.C_below HR0_1.out HB.out))
    (case side2 => exact HC0_1.out)
    rintro e w62 ⟨v473, rfl, ho0, hb⟩
    refine ⟨_, rfl, ?_⟩
    have HO474 := Aside0.mk (Kd.R_lower (Kd.R_new' (Kd.R_new' ho0 (Kd.R_lt (pR HO463.out))) (Kd.R_lt (pR HO468.out))) (below_size pB))
    replace HO463 := Aside0.mk (Kd.R_elder' (pR HO463.out) (Kd.R_base ho0) hb)
    replace HO468 := Aside0.mk (Kd.R_elder' (pR HO468.out) (Kd.R_base ho0) hb)
    replace BK458 := Aside0.mk (bB BK458.out hb)
    replace BK469 := Aside0.mk (bB BK469.out hb)
    replace HB := Aside0.mk (below_step pB hb)
    (try clear hb)
    (try clear hb2)
    (try clear hk)
    (try clear hi)
    (try clear ho0)
    obtain ⟨Ao63, co63, eo63⟩ := Kd.R_slice HO474.out
    (first | subst eo63 | (injection eo63 with f1_ f2_ f3_; have f4_ := f1_.symm; have f5_ := f3_.symm; clear f1_ f2_ f3_; subst f4_; subst f5_))
    refine hK.out _ _ ⟨(blk_cell BK469.out 0).trans rfl, (blk_cell BK469.out 1).trans rfl, (blk_cell BK458.out 0).trans rfl, (blk_cell BK458.out 1).trans rfl⟩ (fun hHeld => ?_)
    clear hK K
    refine norm_ (a' := ?_) ?_ ?_
    rotate_left
    ·show Act.put _ (some 24) _ = _
     simp only [Act.put, List.setIfInBounds_toArray, List.set_cons_zero, List.set_cons_succ, i64_w, i32_w]
     rfl
    refine one_ (i := 3) (N := some 25) #[true, true, true, true, false] rfl rfl kr (by decide) (fun K hK => ?_)
    refine goes_ Try.func11 kr rfl #[.agg #[.int .i64 t465, .slice Ao59 t466.length co59], .agg #[.int .i64 t471, .slice Ao63 t472.length co63]] (by rfl) rfl rfl p5 ?_
    with_reducible refine (laws_eqMatroid.calls k t465 _ _ t466 t471 _ _ t472 false _ ?side1 ?side2 ?side3 ?side4 A27.out).mono ?_
    (case side1 => repeat (first | exact (Kd.R_reads' HO468.out).2.2 | (with_reducible refine Kd.C_alloc ?_ _) | (with_reducible refine Kd.C_drewN ?_ _) | (with_reducible refine Kd.C_drew ?_)))
    (case side2 => exact (Kd.R_reads' HO468.out).2.1)
    (case side3 => repeat (first | exact (Kd.R_reads' HO474.out).2.2 | (with_reducible refine Kd.C_alloc ?_ _) | (with_reducible refine Kd.C_drewN ?_ _) | (with_reducible refine Kd.C_drew ?_)))
    (case side4 => exact (Kd.R_reads' HO474.out).2.1)
    rintro e w64 ⟨rfl, hb⟩
    refine ⟨_, rfl, ?_⟩
    replace HO463 := Aside0.mk (Kd.R_below (pR HO463.out) hb)
    replace HO468 := Aside0.mk (Kd.R_below (pR HO468.out) hb)
    replace HO474 := Aside0.mk (Kd.R_below (pR HO474.out) hb)
    replace BK458 := Aside0.mk (bB BK458.out hb)
    replace BK469 := Aside0.mk (bB BK469.out hb)
    replace HB := Aside0.mk (below_step pB hb)
    (try clear hb)
    (try clear hb2)
    (try clear hk)
    (try clear hi)
    refine hK.out _ _ ⟨(blk_cell BK469.out 0).trans rfl, (blk_cell BK469.out 1).trans rfl, (blk_cell BK458.out 0).trans rfl, (blk_cell BK458.out 1).trans rfl⟩ (fun hHeld => ?_)
    clear hK K
    refine norm_ (a' := ?_) ?_ ?_
    rotate_left
    ·show Act.put _ (some 25) _ = _
     simp only [Act.put, List.setIfInBounds_toArray, List.set_cons_zero, List.set_cons_succ, i64_w, i32_w]
     rfl
    refine pA 4 26 kr ?_
    refine done_ kr ?_
    try go_wp2
    go_ret
    exact ⟨p8, pB⟩
end Go.Proofs.Ytbhckhblonkajaa.Q
namespace Go.Proofs.Ytbhckhblonkajaa.Pure
open Go.RowKit Go.Proofs.Ytbhckhblonkajaa.Q
theorem FnExactIsRegular : ∀ (a0 : Int) (l0 : List Int), (Lit.int .i64 a0).wf = true → l0.length ≤ maxLen → (∀ x ∈ l0, (Lit.int .i64 x).wf = true) → ∃ k, Q.laws_FnExactIsRegular.f k a0 l0 = some true := by
  intro n l _ hl _
  refine Ev.out (f := fun k => Q.laws_FnExactIsRegular.f k n l) ?_
  unfold laws_FnExactIsRegular.f
  refine Ev.bind_some (laws_szMatroid.is n l hl) ?_
  by_cases h : l.length ≤ 1048576
  · rw [if_pos h]
    have hc := laws_toMatroid.is n l (by omega)
    have he := laws_eqMatroid.is n n l l hl
    rw [decide_eq_true rfl, decide_eq_true rfl] at he
    obtain ⟨v, h1, h2⟩ : ∃ v, Ev (fun k => impl_IsRegular.f k n l) v ∧ Ev (fun k => spec_IsRegular.f k n l) v := by
      unfold impl_IsRegular.f spec_IsRegular.f
      obtain ⟨w, _, g1, g2⟩ := FindMatrix.is n l hl 2
      obtain ⟨z, _, q1, q2⟩ := FindMatrix.is n l hl 3
      have b1 : Ev (fun k => impl_IsBinary.f k n l) w.2.2.2.2 := by unfold impl_IsBinary.f; exact Ev.bind g1 (Ev.of rfl)
      have b2 : Ev (fun k => spec_IsBinary.f k n l) w.2.2.2.2 := by unfold spec_IsBinary.f; exact Ev.bind g2 (Ev.of rfl)
      have t1 : Ev (fun k => impl_IsTernary.f k n l) z.2.2.2.2 := by unfold impl_IsTernary.f; exact Ev.bind q1 (Ev.of rfl)
      have t2 : Ev (fun k => spec_IsTernary.f k n l) z.2.2.2.2 := by unfold spec_IsTernary.f; exact Ev.bind q2 (Ev.of rfl)
      by_cases hb : w.2.2.2.2 = true
      · exact ⟨z.2.2.2.2, Ev.bind b1 (Ev.pos hb (Ev.bind t1 (Ev.of rfl))), Ev.bind b2 (Ev.pos hb (Ev.bind t2 (Ev.of rfl)))⟩
      · exact ⟨false, Ev.bind b1 (Ev.neg hb (Ev.of rfl)), Ev.bind b2 (Ev.neg hb (Ev.of rfl))⟩
    refine Ev.neg (by omega) (Ev.bind hc (Ev.bind h2 (Ev.bind hc (Ev.bind h1 (Ev.neg (by simp) (Ev.bind hc (Ev.bind he (Ev.pos rfl (Ev.of rfl)))))))))
  · rw [if_neg h]
    exact Ev.pos (by decide) (Ev.of rfl)
end Go.Proofs.Ytbhckhblonkajaa.Pure
namespace Go.Proofs.Ytbhckhblonkajaa.fnExactIsRegular
open Go.ChangeShapes Go.WideShapes Go.ChangeAt Go.RowKit Go.Joins Go.Proofs.YtbhckhblonkajaaW.PrintWords
theorem own : ownKnob Try.prog.godebug = none := by kernel_rfl
theorem laidOut : laidOutB Try.prog = true := by kernel_rfl
theorem cellsM : Try.prog.cellsOf 24 = 2 := by kernel_rfl
set_option maxRecDepth 100000 in
theorem lifted (os : Os) (started : os.Started) (H : Type) (enc : TypeId × Value → H) :
    ReturnsInHanded {} Try.checked os 5 .any (Rows.fnExactIsRegularSpec.pre6 enc Try.prog Try.f5 Rows.fnExactIsRegularRow.domain false) (Rows.fnExactIsRegularSpec.post enc Try.prog Try.f5 false true false false) := by
  refine returnsInHanded_of_change_sized (C := Try.checked) own started (by kernel_rfl) Try.func5
    (ChangeSpec.witness6 (enc := enc) (C := Try.checked) false ⟨#[], #[.agg #[.int .i64 0, .slice none 0 0]], []⟩ 8 (by kernel_rfl) (by kernel_rfl) (by kernel_rfl) (by kernel_rfl)) ?_
  intro W base args ds gs before hval0 hW hcnd hsz0 _
  have hval : ∀ (j : Nat) t v, Try.f5.params[j]? = some t → args[j]? = some v → Value.okWide Try.prog W .any base t v := hval0
  have hW' := hW
  obtain ⟨p, q, hA0, hV, rfl, hfz, hnd⟩ := hW
  have hA : DataW.TrodAll enc Try.prog W 0 (fun _ => true) true Try.f5.params.toList args.toList ds p := hA0
  rw [Try.params5] at hA hval
  obtain ⟨v0, vs0, d0, ds0, p0, q0, hargs, rfl, rfl, h0, r0⟩ := trodAll_cons hA
  obtain ⟨rfl, rfl, rfl⟩ := trodAll_nil r0
  obtain rfl : args = #[v0] := by cases args; simp_all
  obtain ⟨rfl, rfl⟩ := trodVars_none hV
  have k0 := h0
  have lt0 : ∀ x ∈ p0, x.block < W.heap.size := by obtain ⟨m, hm⟩ := k0; exact DataW.trod_lt m _ _ _ hm
  obtain ⟨c0_0, c0_1, y0_0, y0_1, m0, rfl, rfl, rfl, hy0_0, hy0_1⟩ := open_agg2 Try.underlying24 (by kernel_rfl) cellsM (hval 0 24 v0 rfl rfl) h0
  obtain ⟨a0, e0_0, rfl, w0⟩ := DataW.trod_int Try.underlying3 hy0_0
  simp at e0_0
  subst e0_0
  obtain ⟨A0, len0, cap0, l0, e0_1, hr0, hm0, hw0, hc0, hC0⟩ : ∃ A_ len_ cap_ l_, c0_1 = .slice A_ len_ cap_ ∧ len_ = l_.length ∧ l_.length ≤ maxLen ∧ (∀ x ∈ l_, (Lit.int .i64 x).wf = true) ∧ l_.length ≤ cap_ ∧ Kd.C (Kd.int .i64) W A_ l_.length l_ := by
    rcases open_ints Try.underlying22 Try.underlying3 (by kernel_rfl) hy0_1 with ⟨hcs, _⟩ | ⟨x, l, c, zs, hcs, _, hl, hm, hz, _, hcell, hwz⟩
    · simp at hcs; subst hcs
      obtain ⟨l, h1, h2, h3, h4, h5⟩ := ReadsInt.ofRowC (k := .i64) (w := W) (a := none) (len := 0) (cap := 0) (zs := []) (.inl ⟨rfl, rfl, rfl, rfl⟩)
      exact ⟨_, _, _, l, rfl, h1, h3, h4, h5, Kd.C_of_reads (d := (0 : Int)) (h1 := fun _ => rfl) h2⟩
    · simp at hcs; subst hcs
      obtain ⟨l', h1, h2, h3, h4, h5⟩ := ReadsInt.ofRowC (k := .i64) (w := W) (.inr ⟨_, rfl, hl, hm, by simpa using hz, hcell, hwz⟩)
      exact ⟨_, _, _, l', rfl, h1, h3, h4, h5, Kd.C_of_reads (d := (0 : Int)) (h1 := fun _ => rfl) h2⟩
  subst e0_1; subst hr0
  clear hA0 hval0 hsz0
  obtain ⟨k, h⟩ := Pure.FnExactIsRegular a0 l0 w0 hm0 hw0
  refine (Q.laws_FnExactIsRegular.calls k a0 _ _ l0 true W hC0 hc0 h).mono fun e W' hp => ?_
  obtain ⟨he, bel⟩ := hp
  subst he
  exact ⟨_, rfl, _, _, _, [], _, [], hW', trodAll_mk1 (shut_bool Try.underlying4 _), (trodAll_cons_mk (Below.trod laidOut (by kernel_rfl) (of_decide_eq_true (by kernel_rfl)) k0 bel lt0) trodAll_mk0), rfl, bel.frame _, fun h => by cases h⟩
theorem over : Rows.fnExactIsRegularRow.holds Try.pinned (OpenSpec.ofChange Rows.fnExactIsRegularSpec) :=
  OpenClaim.holds_of_wide 5 Try.f5 rfl rfl rfl rfl rfl rfl rfl ⟨rfl, rfl, rfl, rfl, rfl⟩ rfl rfl rfl rfl rfl (by kernel_rfl) Try.func5 (by kernel_rfl)
    (of_decide_eq_true (by kernel_rfl)) (by unfold Func.isWrapper; first | (rw [if_pos (by decide +kernel)]; kernel_rfl) | (rw [if_neg (by decide +kernel)]; exact ⟨rfl, rfl⟩))
    (fun os started H enc _ => lifted os started H enc)
theorem proved : Rows.FnExactIsRegularSaid := over
#print axioms proved
end Go.Proofs.Ytbhckhblonkajaa.fnExactIsRegular
namespace Go.Proofs.Ytbhckhblonkajaa
theorem fnExactIsRegular_holds : Rows.FnExactIsRegularSaid := fnExactIsRegular.proved
end Go.Proofs.Ytbhckhblonkajaa
