/- Part of a proof: contracts and lemmas that the row's text uses; joined by a program. -/
import Derived.Test.YtbhckhblonkajaaC04
import Derived.Test.YtbhckhblonkajaaC15
import Derived.Test.YtbhckhblonkajaaC19
set_option linter.unusedVariables false
set_option linter.unusedSimpArgs false
namespace Go.Proofs.Ytbhckhblonkajaa.Q
open Go.RowKit Go.Proofs.YtbhckhblonkajaaW.PrintWords Go.Proofs.YtbhckhblonkajaaW.PrintLast Go.Proofs.YtbhckhblonkajaaW.PrintMore
attribute [local go_sem] max2_int min2_int max_two min_two max_three min_three max_four min_four
mutual
def spec_l26Start.l0 : Nat → Int → List Int → Int → Int → List Int → Int → Int → Int → List Int → Option (Int × Int × Int × List Int)
 | 0, _, _, _, _, _, _, _, _, _ => none
 | k + 1, x2, x7, x9, x148000, x148001, x153000, x153001, x153002, x153003 => if x9 < (x7.length : Int) then (spec_l26Start.l1 k x2 x7 x9 0 x148000 x148001 x153000 x153001 x153002 x153003) else (some (x153000, x153001, x153002, x153003))
def spec_l26Start.l1 : Nat → Int → List Int → Int → Int → Int → List Int → Int → Int → Int → List Int → Option (Int × Int × Int × List Int)
 | 0, _, _, _, _, _, _, _, _, _, _ => none
 | k + 1, x2, x7, x9, x10, x148000, x148001, x153000, x153001, x153002, x153003 => if x10 < x148000 then ((spec_l2Has.f x2 x10).bind fun t153 => (if t153 = true then (if 0 ≤ x9 then (if x9 < (x7.length : Int) then ((spec_l1Bit.f (x10 == (rd x7 x9))).bind fun t155 => (if x153003.length < 17592186044416 then (spec_l26Start.l1 k x2 x7 x9 (wrap64 (x10 + 1)) x148000 x148001 x153000 x153001 x153002 (x153003 ++ [t155])) else (none))) else (none)) else (none)) else ((spec_CircuitOf.f k x148000 x148001 x2 x10).bind fun t159 => (if 0 ≤ x9 then (if x9 < (x7.length : Int) then ((spec_l2Has.f t159 (rd x7 x9)).bind fun t161 => ((spec_l1Bit.f t161).bind fun t162 => (if x153003.length < 17592186044416 then (spec_l26Start.l1 k x2 x7 x9 (wrap64 (x10 + 1)) x148000 x148001 x153000 x153001 x153002 (x153003 ++ [t162])) else (none)))) else (none)) else (none))))) else (spec_l26Start.l0 k x2 x7 (wrap64 (x9 + 1)) x148000 x148001 x153000 x153001 x153002 x153003)
end
def spec_l26Start.f (k : Nat) (a0_0 : Int) (l0_1 : List Int) (a1 : Int) (a2 : Int) : Option (Int × Int × Int × List Int) := (spec_ElementsOf.f k a2).bind fun t149 => (spec_l26Start.l0 k a2 t149 0 a0_0 l0_1 a1 (t149.length : Int) a0_0 ([] : List Int))
def spec_l26Start.T10 : Bool × List (List Nat × List Nat) := (true, [([], []), ([0], [0]), ([], []), ([], []), ([], []), ([3, 4], [3, 4]), ([5], [5]), ([2, 6], [2, 6]), ([7], [7]), ([8], [8]), ([1, 9, 8], [1, 9]), ([0, 1, 2, 3, 4, 5, 6, 7, 8, 9, 10], []), ([11, 10, 10, 0, 1, 2, 3, 4, 5, 6, 7, 8, 9, 10], [10, 11])])
def spec_l26Start.B10 : List Nat := [0, 1, 0, 0, 0, 24, 56, 124, 252, 508, 1023, 2047, 4095]
theorem spec_l26Start.tab10 : rtab .any (opsOf Try.f26 10) = spec_l26Start.T10 := by kernel_rfl
theorem spec_l26Start.bits10 : waitsOk spec_l26Start.T10.2 spec_l26Start.B10 = true := by kernel_rfl
def spec_l26Start.T11 : Bool × List (List Nat × List Nat) := (true, [([], []), ([0], [0]), ([], []), ([], []), ([], []), ([2, 3, 4], [2, 3, 4]), ([], []), ([], []), ([6, 7], [6, 7]), ([8], [8]), ([5, 9, 5], [5, 9]), ([10, 10], [10]), ([11], [11]), ([1, 12, 11], [1, 12]), ([0, 1, 2, 3, 4, 5, 6, 7, 8, 9, 10, 11, 12, 13], []), ([14, 13, 13, 0, 1, 2, 3, 4, 5, 6, 7, 8, 9, 10, 11, 12, 13], [13, 14])])
def spec_l26Start.B11 : List Nat := [0, 1, 0, 0, 0, 28, 0, 0, 192, 448, 1020, 2044, 4092, 8191, 16383, 32767]
theorem spec_l26Start.tab11 : rtab .any (opsOf Try.f26 11) = spec_l26Start.T11 := by kernel_rfl
theorem spec_l26Start.bits11 : waitsOk spec_l26Start.T11.2 spec_l26Start.B11 = true := by kernel_rfl
set_option maxHeartbeats 8000000 in
set_option maxRecDepth 100000 in
theorem spec_l26Start.calls (k : Nat) (a0_0 : Int) (A0_1 : Option Addr) (c0_1 : Nat) (l0_1 : List Int) (a1 : Int) (a2 : Int) (r1 : Int) (r2 : Int) (r3 : Int) (r4 : List Int) (w : World) (hr0_1 : Kd.C (Kd.int .i64) w A0_1 l0_1.length l0_1) (hc0_1 : l0_1.length ≤ c0_1) (h : spec_l26Start.f k a0_0 l0_1 a1 a2 = some (r1, r2, r3, r4)) :
  Calls Try.prog 26 #[.agg #[.int .i64 a0_0, .slice A0_1 l0_1.length c0_1], .int .i64 a1, .int .i64 a2] w fun e w' => ∃ v3_ : Value, e = .returned (.agg #[.int .i64 r1, .int .i64 r2, .int .i64 r3, v3_]) ∧ Kd.R (Kd.int .i64) 3 w' w.heap.size (fun _ => True) v3_ r4 ∧ Below w.heap.size w w' := by
 have hu27 := Try.underlying27
 have hu32 := Try.underlying32
 have HR0_1 := Aside0.mk hr0_1
 have HC0_1 := Aside0.mk hc0_1
 clear hr0_1 hc0_1
 have HB := Aside0.mk (Below.refl w.heap.size w)
 have H : ((spec_ElementsOf.f k a2).bind fun t149 => (spec_l26Start.l0 k a2 t149 0 a0_0 l0_1 a1 (t149.length : Int) a0_0 ([] : List Int))) = some (r1, r2, r3, r4) := h
 clear h
 replace H := bS H
 obtain ⟨t149, A4, H⟩ := H
 have H' := Aside0.mk H
 clear H
 go_enter Try.func26, Try.ntmps26
 go_wp2_with (first | ((with_reducible refine gate_dst (N := 3) rfl ?_); refine box_event ?hg (N := 3) ?hd (cs := #[.int .i64 a0_0, .slice A0_1 l0_1.length c0_1]) (t := 27) ?hr ?_; (case hd => rfl); (case hg => rfl); (case hr => first | (go_simp; done) | (go_simp; rfl)); intro gb147 hg w5 hbox hb; have BK147 := Aside0.mk (hbox); have GW147 := Aside0.mk (bZ (w := w) hg); have GE147 := Aside0.mk (bZ (w := w) hg); replace HB := Aside0.mk (below_step pB hb); clear hb hbox hg) | ((with_reducible refine gate_dst (N := 6) rfl ?_); refine box_event ?hg (N := 6) ?hd (cs := #[.int .i64 0, .int .i64 0, .int .i64 0, .slice none 0 0]) (t := 32) ?hr ?_; (case hd => rfl); (case hg => rfl); (case hr => first | (go_simp; done) | (go_simp; rfl)); intro gb148 hg w6 hbox hb; have BK148 := Aside0.mk (hbox); have GW148 := Aside0.mk (bZ (w := w) hg); have GE148 := Aside0.mk (bZ (w := w) hg); replace HB := Aside0.mk (below_step pB hb); have NB147_148 := Aside0.mk (bL BK147.out hg); have NB148_147 := Aside0.mk (bG BK147.out hg); replace BK147 := Aside0.mk (bB BK147.out hb); clear hb hbox hg) | ((with_reducible refine gate_callee (f := 39) rfl ?_); refine goesL_ (some 12) rfl rfl Try.func39 kr rfl #[.int .i64 a2] rfl p5 ?_; (with_reducible refine (spec_ElementsOf.calls k a2 t149 _ A4.out).mono ?_); rintro e w7 ⟨v150, rfl, ho0, hb⟩; refine ⟨_, rfl, ?_⟩; have HO151 := Aside0.mk (Kd.R_lower ho0 (below_size pB)); replace BK147 := Aside0.mk (bB BK147.out hb); replace BK148 := Aside0.mk (bB BK148.out hb); replace HB := Aside0.mk (below_step pB hb); (try clear hb); (try clear hb2); (try clear hk); (try clear hi); (try clear ho0); obtain ⟨Ao8, co8, eo8⟩ := Kd.R_slice HO151.out; subst eo8; have hnb9 := NB147_148.out; have hnc9 := NB148_147.out; obtain ⟨hcz10_0, hcz10_1, hfz10_0, hfz10_1⟩ := bc2 BK147.out) | ((with_reducible refine gate_dst (N := 8) rfl ?_); refine box_event ?hg (N := 8) ?hd (cs := #[.int .i64 0, .int .i64 0, .int .i64 0, .slice none 0 0]) (t := 32) ?hr ?_; (case hd => rfl); (case hg => rfl); (case hr => first | (go_simp; done) | (go_simp; rfl)); intro gb152 hg w11 hbox hb; replace HO151 := Aside0.mk (Kd.R_below (pR HO151.out) hb); have BK152 := Aside0.mk (hbox); have GW152 := Aside0.mk (bZ (w := w) hg); have GE152 := Aside0.mk (bZ (w := w) hg); replace HB := Aside0.mk (below_step pB hb); have NB147_152 := Aside0.mk (bL BK147.out hg); have NB152_147 := Aside0.mk (bG BK147.out hg); replace BK147 := Aside0.mk (bB BK147.out hb); have NB148_152 := Aside0.mk (bL BK148.out hg); have NB152_148 := Aside0.mk (bG BK148.out hg); replace BK148 := Aside0.mk (bB BK148.out hb); clear hb hbox hg; have hnb12 := NB152_147.out; have hnc12 := NB147_152.out; have hnb13 := NB152_148.out; have hnc13 := NB148_152.out; obtain ⟨hcz14_0, hcz14_1, hcz14_2, hcz14_3, hfz14_0, hfz14_1, hfz14_2, hfz14_3⟩ := bc4 BK152.out))
 go_loopg [9] k (fun kq v9 w' => ∃ (x9_1 : Int) (x153003_1 : List Int) (u153003 : Value), v9 = .int .i64 x9_1 ∧ Aside0 (spec_l26Start.l0 kq a2 t149 x9_1 a0_0 l0_1 a1 (t149.length : Int) a0_0 x153003_1 = some (r1, r2, r3, r4)) ∧ Aside0 (kq ≤ k) ∧ Aside0 (Kd.R (Kd.int .i64) 3 w' w.heap.size (fun k_ => some k_ ≠ (u153003 : Value).ownBlock) (.slice Ao8 t149.length co8) t149) ∧ Aside0 (Kd.R (Kd.int .i64) 3 w' w.heap.size (fun k_ => some k_ ≠ ((.slice Ao8 t149.length co8) : Value).ownBlock) u153003 x153003_1) ∧ Aside0 (w'.heap[gb147]? = some (.cells #[.int .i64 a0_0, (.slice A0_1 l0_1.length c0_1)] 27 (0, 0))) ∧ Aside0 (w'.heap[gb148]? = some (.cells #[.int .i64 0, .int .i64 0, .int .i64 0, (.slice none 0 0)] 32 (0, 0))) ∧ Aside0 (w'.heap[gb152]? = some (.cells #[.int .i64 a1, .int .i64 (t149.length : Int), .int .i64 a0_0, u153003] 32 (0, 0))) ∧ Aside0 (Below w.heap.size w w'))
 case atStart => exact ⟨(0), (([] : List Int)), (.slice none 0 0), p7, H', ⟨Nat.le_refl _⟩, ⟨by (with_reducible repeat (first | apply Kd.R_alloc | apply Kd.R_drewN | apply Kd.R_drew)); exact Kd.R_mono (Kd.R_far (p := ⟨gb152, 3, none⟩) (Kd.R_far (p := ⟨gb152, 2, none⟩) (Kd.R_far (p := ⟨gb152, 1, none⟩) (Kd.R_far (p := ⟨gb152, 0, none⟩) (Kd.R_types HO151.out BK152.out (by decide)) (fun _ hk => hk.2) (.int .i64 a1)) (fun _ hk => hk.2) (.int .i64 (t149.length : Int))) (fun _ hk => hk.2) (.int .i64 a0_0)) (fun _ hk => hk.2) (.slice none 0 0)) (fun _ hk => (by simp [Value.ownBlock]))⟩, ⟨by first | exact Kd.R_nil _ _ _ _ _ | exact Kd.N_nil _ _ _ _ _ | exact Kd.V_nil _ _ _ _ _ | exact Kd.Q_nil _ _ _ _ _ | exact Kd.S_nil _ _ _ _ _⟩, ⟨by (with_reducible repeat (first | refine blk_drewN ?_ _ | refine blk_drew ?_ | refine blk_alloc ?_ _)); refine blk_far ?_ NB147_152.out _; (with_reducible repeat (first | refine blk_drewN ?_ _ | refine blk_drew ?_ | refine blk_alloc ?_ _)); refine blk_far ?_ NB147_152.out _; (with_reducible repeat (first | refine blk_drewN ?_ _ | refine blk_drew ?_ | refine blk_alloc ?_ _)); refine blk_far ?_ NB147_152.out _; (with_reducible repeat (first | refine blk_drewN ?_ _ | refine blk_drew ?_ | refine blk_alloc ?_ _)); refine blk_far ?_ NB147_152.out _; (with_reducible repeat (first | refine blk_drewN ?_ _ | refine blk_drew ?_ | refine blk_alloc ?_ _)); exact BK147.out⟩, ⟨by (with_reducible repeat (first | refine blk_drewN ?_ _ | refine blk_drew ?_ | refine blk_alloc ?_ _)); refine blk_far ?_ NB148_152.out _; (with_reducible repeat (first | refine blk_drewN ?_ _ | refine blk_drew ?_ | refine blk_alloc ?_ _)); refine blk_far ?_ NB148_152.out _; (with_reducible repeat (first | refine blk_drewN ?_ _ | refine blk_drew ?_ | refine blk_alloc ?_ _)); refine blk_far ?_ NB148_152.out _; (with_reducible repeat (first | refine blk_drewN ?_ _ | refine blk_drew ?_ | refine blk_alloc ?_ _)); refine blk_far ?_ NB148_152.out _; (with_reducible repeat (first | refine blk_drewN ?_ _ | refine blk_drew ?_ | refine blk_alloc ?_ _)); exact BK148.out⟩, ⟨by (with_reducible repeat (first | refine blk_drewN ?_ _ | refine blk_drew ?_ | refine blk_alloc ?_ _)); refine blk_put (cs := #[.int .i64 a1, .int .i64 (t149.length : Int), .int .i64 a0_0, .slice none 0 0]) ?_ 3 _ rfl; (with_reducible repeat (first | refine blk_drewN ?_ _ | refine blk_drew ?_ | refine blk_alloc ?_ _)); refine blk_put (cs := #[.int .i64 a1, .int .i64 (t149.length : Int), .int .i64 0, .slice none 0 0]) ?_ 2 _ rfl; (with_reducible repeat (first | refine blk_drewN ?_ _ | refine blk_drew ?_ | refine blk_alloc ?_ _)); refine blk_put (cs := #[.int .i64 a1, .int .i64 0, .int .i64 0, .slice none 0 0]) ?_ 1 _ rfl; (with_reducible repeat (first | refine blk_drewN ?_ _ | refine blk_drew ?_ | refine blk_alloc ?_ _)); refine blk_put (cs := #[.int .i64 0, .int .i64 0, .int .i64 0, .slice none 0 0]) ?_ 0 _ rfl; (with_reducible repeat (first | refine blk_drewN ?_ _ | refine blk_drew ?_ | refine blk_alloc ?_ _)); exact BK152.out⟩, ⟨pB⟩⟩
 case round =>
  clear H'
  try clear hcz10_0
  try clear hcz10_1
  try clear hcz14_0
  try clear hcz14_1
  try clear hcz14_2
  try clear hcz14_3
  try clear hfz10_0
  try clear hfz10_1
  try clear hfz14_0
  try clear hfz14_1
  try clear hfz14_2
  try clear hfz14_3
  obtain ⟨x9_1, x153003_1, u153003, rfl, HA, HK1, HO_7, HO_153003, BK147, BK148, BK152, HB⟩ := hrel
  cases gk with
  | zero => exact absurd HA.out (by simp [spec_l26Start.l0])
  | succ k1 =>
   have H := HA.out
   clear HA
   simp only [spec_l26Start.l0] at H
   by_cases c15 : x9_1 < (t149.length : Int)
   ·rw [if_pos c15] at H
    have c15b0 : decide (x9_1 < (t149.length : Int)) = true := decide_eq_true c15
    clear c15
    have H' := Aside0.mk H
    clear H
    go_wp2
    go_loopg [10] k1 (fun kq v10 w' => ∃ (x10_2 : Int) (x153003_2 : List Int) (u153003 : Value), v10 = .int .i64 x10_2 ∧ Aside0 (spec_l26Start.l1 kq a2 t149 x9_1 x10_2 a0_0 l0_1 a1 (t149.length : Int) a0_0 x153003_2 = some (r1, r2, r3, r4)) ∧ Aside0 (kq ≤ k1) ∧ Aside0 (Kd.R (Kd.int .i64) 3 w' w.heap.size (fun k_ => some k_ ≠ (u153003 : Value).ownBlock) (.slice Ao8 t149.length co8) t149) ∧ Aside0 (Kd.R (Kd.int .i64) 3 w' w.heap.size (fun k_ => some k_ ≠ ((.slice Ao8 t149.length co8) : Value).ownBlock) u153003 x153003_2) ∧ Aside0 (w'.heap[gb147]? = some (.cells #[.int .i64 a0_0, (.slice A0_1 l0_1.length c0_1)] 27 (0, 0))) ∧ Aside0 (w'.heap[gb148]? = some (.cells #[.int .i64 0, .int .i64 0, .int .i64 0, (.slice none 0 0)] 32 (0, 0))) ∧ Aside0 (w'.heap[gb152]? = some (.cells #[.int .i64 a1, .int .i64 (t149.length : Int), .int .i64 a0_0, u153003] 32 (0, 0))) ∧ Aside0 (Below w.heap.size w w'))
    case atStart => exact ⟨(0), (x153003_1), (u153003), p7, H', ⟨Nat.le_refl _⟩, ⟨pR HO_7.out⟩, ⟨pR HO_153003.out⟩, ⟨pK BK147.out⟩, ⟨pK BK148.out⟩, ⟨pK BK152.out⟩, ⟨pB⟩⟩
    case round =>
     clear H'
     try clear c15
     try clear c15b0
     try clear hcz10_0
     try clear hcz10_1
     try clear hcz14_0
     try clear hcz14_1
     try clear hcz14_2
     try clear hcz14_3
     try clear hfz10_0
     try clear hfz10_1
     try clear hfz14_0
     try clear hfz14_1
     try clear hfz14_2
     try clear hfz14_3
     obtain ⟨x10_2, x153003_2, u153003, rfl, HA, HK2, HO_7, HO_153003, BK147, BK148, BK152, HB⟩ := hrel
     cases gk with
     | zero => exact absurd HA.out (by simp [spec_l26Start.l1])
     | succ k2 =>
      have H := HA.out
      clear HA
      simp only [spec_l26Start.l1] at H
      by_cases c16 : x10_2 < a0_0
      ·rw [if_pos c16] at H
       have c16b0 : decide (x10_2 < a0_0) = true := decide_eq_true c16
       clear c16
       replace H := bS H
       obtain ⟨t153, A17, H⟩ := H
       by_cases c18 : t153 = true
       ·subst c18
        replace H := iP H
        by_cases c19 : 0 ≤ x9_1
        ·rw [if_pos c19] at H
         have c19b0 : decide (0 ≤ x9_1) = true := decide_eq_true c19
         clear c19
         by_cases c20 : x9_1 < (t149.length : Int)
         ·rw [if_pos c20] at H
          have c20b0 : decide (x9_1 < (t149.length : Int)) = true := decide_eq_true c20
          clear c20
          replace H := bS H
          obtain ⟨t155, A21, H⟩ := H
          by_cases c22 : x153003_2.length < 17592186044416
          ·rw [if_pos c22] at H
           have LMc22 := Aside0.mk c22
           clear c22
           obtain ⟨y156, hy156⟩ : ∃ y_ : List Int, y_ = (x153003_2 ++ [t155]) := ⟨_, rfl⟩
           replace H : (spec_l26Start.l1 k2 a2 t149 x9_1 (wrap64 (x10_2 + 1)) a0_0 l0_1 a1 (t149.length : Int) a0_0 y156) = some (r1, r2, r3, r4) := by first | (rw [hy156]; with_reducible exact H) | (have H2_ := (Option.bind_some _ _).symm.trans H; rw [hy156]; with_reducible exact H2_) | (have H2_ := (Option.bind_some _ _).symm.trans H; with_reducible exact H2_) | with_reducible exact H | (rw [hy156]; exact H) | exact H
           have Ny156 := Aside0.mk hy156
           clear hy156
           have H' := Aside0.mk H
           clear H
           have hnb23 := NB147_148.out
           have hnc23 := NB148_147.out
           have hnb24 := NB147_152.out
           have hnc24 := NB152_147.out
           obtain ⟨hcz25_0, hcz25_1, hfz25_0, hfz25_1⟩ := bc2 BK147.out
           try go_wp2_with (first | ((with_reducible refine gate_callee (f := 40) rfl ?_); refine goesL_ (some 33) rfl rfl Try.func40 kr rfl #[.int .i64 a2, .int .i64 x10_2] rfl p5 ?_; (with_reducible refine (spec_l2Has.calls a2 x10_2 true _ A17.out).mono ?_); rintro e w' ⟨rfl, ⟨nd, rfl⟩⟩; refine ⟨_, rfl, ?_⟩; (try (rw [drewN_self wr]; generalize hq_ : World.drewN wr _ = wr; have n0_ : Aside0 (Kd.R (Kd.int .i64) 3 wr w.heap.size (fun k_ => some k_ ≠ (.slice Ao8 t149.length co8 : Value).ownBlock) u153003 x153003_2) := ⟨by rw [← hq_]; exact (pR HO_153003.out)⟩; have n1_ : Aside0 (Kd.R (Kd.int .i64) 3 wr w.heap.size (fun k_ => some k_ ≠ (u153003 : Value).ownBlock) (.slice Ao8 t149.length co8) t149) := ⟨by rw [← hq_]; exact (pR HO_7.out)⟩; have n2_ : Aside0 (wr.heap[gb147]? = some (.cells #[.int .i64 a0_0, .slice A0_1 l0_1.length c0_1] 27 (0, 0))) := ⟨by rw [← hq_]; exact (pK BK147.out)⟩; have n3_ : Aside0 (wr.heap[gb148]? = some (.cells #[.int .i64 0, .int .i64 0, .int .i64 0, .slice none 0 0] 32 (0, 0))) := ⟨by rw [← hq_]; exact (pK BK148.out)⟩; have n4_ : Aside0 (wr.heap[gb152]? = some (.cells #[.int .i64 a1, .int .i64 (t149.length : Int), .int .i64 a0_0, u153003] 32 (0, 0))) := ⟨by rw [← hq_]; exact (pK BK152.out)⟩; have n5_ : Aside0 (Below w.heap.size w wr) := ⟨by rw [← hq_]; exact pB⟩; clear HO_153003 HO_7 BK147 BK148 BK152 HB hq_; have HO_153003 := n0_; have HO_7 := n1_; have BK147 := n2_; have BK148 := n3_; have BK152 := n4_; have HB := n5_; clear n0_ n1_ n2_ n3_ n4_ n5_))))
           replace HO_7 := Aside0.mk (Kd.R_drew HO_7.out)
           replace HO_153003 := Aside0.mk (Kd.R_drew HO_153003.out)
           replace BK147 := Aside0.mk (blk_drew BK147.out)
           replace BK148 := Aside0.mk (blk_drew BK148.out)
           replace BK152 := Aside0.mk (blk_drew BK152.out)
           replace HB := Aside0.mk (below_drew1 HB.out)
           have p154 : 0 ≤ (x9_1 : Int) := oD
           have q154 : x9_1 < (t149.length : Int) := oD
           obtain ⟨ad154, e154, hx154_0⟩ := Kd.at_int (Kd.R_reads' HO_7.out).2.2 x9_1 p154 q154
           cases e154
           replace p154 := eq_true p154
           replace q154 := eq_true q154
           refine start_ (n := 13) (S := fun w' => w'.cell? ⟨gb152, 0, none⟩ = some (.int .i64 a1) ∧ w'.cell? ⟨gb152, 1, none⟩ = some (.int .i64 (t149.length : Int)) ∧ w'.cell? ⟨gb152, 2, none⟩ = some (.int .i64 a0_0) ∧ w'.cell? ⟨gb152, 3, none⟩ = some (u153003) ∧ w'.cell? (ad154.add (x9_1).toNat) = some (.int .i64 (rd t149 x9_1))) (ds := [10, 12]) #[false, false, false, false, false, false, false, false, false, false, false, false, false] kr rfl rfl ⟨(blk_cell BK152.out 0).trans rfl, (blk_cell BK152.out 1).trans rfl, (blk_cell BK152.out 2).trans rfl, (blk_cell BK152.out 3).trans rfl, hx154_0⟩ (fun hHeld => ?_); refine with_tabW spec_l26Start.tab10 spec_l26Start.bits10 (fun HT_ HW_ => ?_)
           generalize wr.drew = w26 at HO_7 HO_153003 BK147 BK148 BK152 HB hx154_0 hHeld ⊢
           refine pA 0 34 (any_of HT_.out kr) ?_
           refine pA 2 36 (any_of HT_.out kr) ?_
           refine pA 3 37 (any_of HT_.out kr) ?_
           refine pA 4 38 (any_of HT_.out kr) ?_
           refine pA 5 39 (any_of HT_.out kr) ?_
           refine tA5 1 35 (take_ofW HT_.out HW_.out kr) hHeld ?_
           refine tA5 6 40 (take_ofW HT_.out HW_.out kr) hHeld ?_
           refine pA 7 41 (any_of HT_.out kr) ?_
           refine one_ (i := 8) (N := some 42) #[true, true, true, true, true, true, true, true, true, false, false, false, false] rfl rfl (one_of HT_.out kr) (by decide) (fun K hK => ?_)
           refine goes_ Try.func41 kr rfl #[.bool (x10_2 == (rd t149 x9_1))] (by rfl) rfl rfl p5 ?_
           with_reducible refine (spec_l1Bit.calls (x10_2 == (rd t149 x9_1)) t155 _ A21.out).mono ?_
           rintro e w' ⟨rfl, ⟨nd, rfl⟩⟩
           refine ⟨_, rfl, ?_⟩
           refine hK.out _ _ ⟨(blk_cell BK152.out 0).trans rfl, (blk_cell BK152.out 1).trans rfl, (blk_cell BK152.out 2).trans rfl, (blk_cell BK152.out 3).trans rfl, hHeld.2.2.2.2⟩ (fun hHeld => ?_)
           clear hK K
           refine norm_ (a' := ?_) ?_ ?_
           rotate_left
           ·show Act.put _ (some 42) _ = _
            simp only [Act.put, List.setIfInBounds_toArray, List.set_cons_zero, List.set_cons_succ, i64_w, i32_w]
            rfl
           refine one_ (i := 9) (N := some 43) #[true, true, true, true, true, true, true, true, true, true, false, false, false] rfl rfl (one_of HT_.out kr) (by decide) (fun K hK => ?_)
           refine value_ (w1 := ?_) (v := ?_) (by rfl) rfl ?_ ?_
           rotate_left 2
           ·go_simp
            constructor
            ·rfl
            ·rfl
           refine hK.out _ _ ⟨(blk_cell (blk_alloc BK152.out _) 0).trans rfl, (blk_cell (blk_alloc BK152.out _) 1).trans rfl, (blk_cell (blk_alloc BK152.out _) 2).trans rfl, (blk_cell (blk_alloc BK152.out _) 3).trans rfl, (World.cell?_alloc_lt _ _ _ (World.block_lt_of_cell? _ _ (hHeld.2.2.2.2))).trans (hHeld.2.2.2.2)⟩ (fun hHeld => ?_)
           clear hK K
           refine norm_ (a' := ?_) ?_ ?_
           rotate_left
           ·show Act.put _ (some 43) _ = _
            simp only [Act.put, List.setIfInBounds_toArray, List.set_cons_zero, List.set_cons_succ, i64_w, i32_w]
            rfl
           refine last_ (i := 10) (N := some 44) #[true, true, true, true, true, true, true, true, true, true, true, false, false] rfl rfl (one_of HT_.out kr) (by decide) (fun K hK => ?_)
           refine Kd.R_append_step (Kd.int .i64) (w0 := w) w.heap.size (by rfl) (.tmp 35) (.tmp 43) 22 3 (.int .i64 0) 8 rfl Try.underlying22 info3 rfl (by decide) (by omega) u153003 x153003_2 t155 [.int .i64 t155] (fun k_ => some k_ ≠ (.slice (some ad154) t149.length co8 : Value).ownBlock) (fun _ => False) rfl rfl ?aP (fun _ hk => hk.elim) ?aF ?aO ?aB ?aS ?aL ?_
           (case aP => exact rfl)
           (case aB => exact pB)
           (case aF => exact (fun k_ hk => Kd.fresh' (Kd.R_lt (pR HO_7.out)) k_ hk))
           (case aO => exact (pR HO_153003.out))
           (case aS => exact (below_size pB))
           (case aL => have := LMc22.out; omega)
           intro v157 w27 ho hb hg hat
           rw [← Ny156.out] at ho
           have n0_ := Aside0.mk (Kd.R_after (ok := (fun _ => True)) (by (with_reducible repeat (first | apply Kd.R_alloc | apply Kd.R_drewN | apply Kd.R_drew)); exact Kd.R_mono HO_7.out (fun _ hk => ⟨trivial, hk⟩)) hg hat)
           have n1_ := Aside0.mk (blk_grown (g := gb147) (o := .cells #[.int .i64 a0_0, .slice A0_1 l0_1.length c0_1] 27 (0, 0)) (pK BK147.out) hg (Kd.R_ne HO_153003.out BK147.out (by decide)))
           have n2_ := Aside0.mk (blk_grown (g := gb148) (o := .cells #[.int .i64 0, .int .i64 0, .int .i64 0, .slice none 0 0] 32 (0, 0)) (pK BK148.out) hg (Kd.R_ne HO_153003.out BK148.out (by decide)))
           have n3_ := Aside0.mk (blk_grown (g := gb152) (o := .cells #[.int .i64 a1, .int .i64 (t149.length : Int), .int .i64 a0_0, u153003] 32 (0, 0)) (pK BK152.out) hg (Kd.R_ne HO_153003.out BK152.out (by decide)))
           have n4_ := Aside0.mk (hb)
           have n5_ := Aside0.mk (ho)
           clear HO_7
           clear BK147
           clear BK148
           clear BK152
           clear HB
           clear HO_153003
           have HO_7 := n0_
           have BK147 := n1_
           have BK148 := n2_
           have BK152 := n3_
           have HB := n4_
           have HO158 := n5_
           clear n0_ n1_ n2_ n3_ n4_ n5_
           clear ho hb hg hat
           obtain ⟨Ao28, co28, eo28⟩ := Kd.R_slice HO158.out
           (first | subst eo28 | (injection eo28 with f1_ f2_ f3_; have f4_ := f1_.symm; have f5_ := f3_.symm; clear f1_ f2_ f3_; subst f4_; subst f5_))
           refine hK.out _ _ ?_
           clear hK K
           refine norm_ (a' := ?_) ?_ ?_
           rotate_left
           ·show Act.put _ (some 44) _ = _
            simp only [Act.put, List.setIfInBounds_toArray, List.set_cons_zero, List.set_cons_succ, i64_w, i32_w]
            rfl
           refine pA 11 45 (any_of HT_.out kr) ?_
           refine last_ (i := 12) (N := none) #[true, true, true, true, true, true, true, true, true, true, true, true, true] rfl rfl (one_of HT_.out kr) (by decide) (fun K hK => ?_)
           have hs29 : w27.cell? ⟨gb152, 3, none⟩ = some (u153003) := (blk_cell BK152.out 3).trans rfl
           have hfs29 := blk_frozen BK152.out 3
           have hns29_0 := NB147_152.out
           have hns29_1 := NB148_152.out
           have hms29_0 := NB152_147.out
           have hms29_1 := NB152_148.out
           refine skip_ (w1 := ?_) (by rfl) rfl ?_ ?_
           rotate_left
           ·go_simp
            rfl
           refine hK.out _ _ ?_
           clear hK K
           refine done_ (done_of HT_.out kr) ?_
           try go_wp2
           go_roundg k2
           case measure => have := HK1.out; have := HK2.out; omega
           case rel => exact ⟨(wrap64 (x10_2 + 1)), (y156), (.slice Ao28 y156.length co28), p7, H', ⟨by have := HK1.out; have := HK2.out; omega⟩, ⟨by (with_reducible repeat (first | apply Kd.R_alloc | apply Kd.R_drewN | apply Kd.R_drew)); exact Kd.R_mono (Kd.R_far (p := ⟨gb152, 3, none⟩) (Kd.R_types HO_7.out BK152.out (by decide)) (fun _ hk => hk.2) (.slice Ao28 y156.length co28)) (fun _ hk => hk.1.2)⟩, ⟨by (with_reducible repeat (first | apply Kd.R_alloc | apply Kd.R_drewN | apply Kd.R_drew)); exact Kd.R_mono (Kd.R_far (p := ⟨gb152, 3, none⟩) (Kd.R_types HO158.out BK152.out (by decide)) (fun _ hk => hk.2) (.slice Ao28 y156.length co28)) (fun _ hk => hk.1)⟩, ⟨by (with_reducible repeat (first | refine blk_drewN ?_ _ | refine blk_drew ?_ | refine blk_alloc ?_ _)); refine blk_far ?_ NB147_152.out _; (with_reducible repeat (first | refine blk_drewN ?_ _ | refine blk_drew ?_ | refine blk_alloc ?_ _)); exact BK147.out⟩, ⟨by (with_reducible repeat (first | refine blk_drewN ?_ _ | refine blk_drew ?_ | refine blk_alloc ?_ _)); refine blk_far ?_ NB148_152.out _; (with_reducible repeat (first | refine blk_drewN ?_ _ | refine blk_drew ?_ | refine blk_alloc ?_ _)); exact BK148.out⟩, ⟨by (with_reducible repeat (first | refine blk_drewN ?_ _ | refine blk_drew ?_ | refine blk_alloc ?_ _)); refine blk_put (cs := #[.int .i64 a1, .int .i64 (t149.length : Int), .int .i64 a0_0, u153003]) ?_ 3 _ rfl; (with_reducible repeat (first | refine blk_drewN ?_ _ | refine blk_drew ?_ | refine blk_alloc ?_ _)); exact BK152.out⟩, ⟨pB⟩⟩
          ·rw [if_neg c22] at H
           exact absurd H (by simp)
         ·rw [if_neg c20] at H
          exact absurd H (by simp)
        ·rw [if_neg c19] at H
         exact absurd H (by simp)
       ·replace c18 := Bool.eq_false_iff.mpr c18
        subst c18
        replace H := iN H
        replace H := bS H
        obtain ⟨t159, A30, H⟩ := H
        by_cases c31 : 0 ≤ x9_1
        ·rw [if_pos c31] at H
         have c31b0 : decide (0 ≤ x9_1) = true := decide_eq_true c31
         clear c31
         by_cases c32 : x9_1 < (t149.length : Int)
         ·rw [if_pos c32] at H
          have c32b0 : decide (x9_1 < (t149.length : Int)) = true := decide_eq_true c32
          clear c32
          replace H := bS H
          obtain ⟨t161, A33, H⟩ := H
          replace H := bS H
          obtain ⟨t162, A34, H⟩ := H
          by_cases c35 : x153003_2.length < 17592186044416
          ·rw [if_pos c35] at H
           have LMc35 := Aside0.mk c35
           clear c35
           obtain ⟨y163, hy163⟩ : ∃ y_ : List Int, y_ = (x153003_2 ++ [t162]) := ⟨_, rfl⟩
           replace H : (spec_l26Start.l1 k2 a2 t149 x9_1 (wrap64 (x10_2 + 1)) a0_0 l0_1 a1 (t149.length : Int) a0_0 y163) = some (r1, r2, r3, r4) := by first | (rw [hy163]; with_reducible exact H) | (have H2_ := (Option.bind_some _ _).symm.trans H; rw [hy163]; with_reducible exact H2_) | (have H2_ := (Option.bind_some _ _).symm.trans H; with_reducible exact H2_) | with_reducible exact H | (rw [hy163]; exact H) | exact H
           have Ny163 := Aside0.mk hy163
           clear hy163
           have H' := Aside0.mk H
           clear H
           have hnb36 := NB147_148.out
           have hnc36 := NB148_147.out
           have hnb37 := NB147_152.out
           have hnc37 := NB152_147.out
           obtain ⟨hcz38_0, hcz38_1, hfz38_0, hfz38_1⟩ := bc2 BK147.out
           try go_wp2_with (first | ((with_reducible refine gate_callee (f := 40) rfl ?_); refine goesL_ (some 33) rfl rfl Try.func40 kr rfl #[.int .i64 a2, .int .i64 x10_2] rfl p5 ?_; (with_reducible refine (spec_l2Has.calls a2 x10_2 false _ A17.out).mono ?_); rintro e w' ⟨rfl, ⟨nd, rfl⟩⟩; refine ⟨_, rfl, ?_⟩; (try (rw [drewN_self wr]; generalize hq_ : World.drewN wr _ = wr; have n0_ : Aside0 (Kd.R (Kd.int .i64) 3 wr w.heap.size (fun k_ => some k_ ≠ (.slice Ao8 t149.length co8 : Value).ownBlock) u153003 x153003_2) := ⟨by rw [← hq_]; exact (pR HO_153003.out)⟩; have n1_ : Aside0 (Kd.R (Kd.int .i64) 3 wr w.heap.size (fun k_ => some k_ ≠ (u153003 : Value).ownBlock) (.slice Ao8 t149.length co8) t149) := ⟨by rw [← hq_]; exact (pR HO_7.out)⟩; have n2_ : Aside0 (wr.heap[gb147]? = some (.cells #[.int .i64 a0_0, .slice A0_1 l0_1.length c0_1] 27 (0, 0))) := ⟨by rw [← hq_]; exact (pK BK147.out)⟩; have n3_ : Aside0 (wr.heap[gb148]? = some (.cells #[.int .i64 0, .int .i64 0, .int .i64 0, .slice none 0 0] 32 (0, 0))) := ⟨by rw [← hq_]; exact (pK BK148.out)⟩; have n4_ : Aside0 (wr.heap[gb152]? = some (.cells #[.int .i64 a1, .int .i64 (t149.length : Int), .int .i64 a0_0, u153003] 32 (0, 0))) := ⟨by rw [← hq_]; exact (pK BK152.out)⟩; have n5_ : Aside0 (Below w.heap.size w wr) := ⟨by rw [← hq_]; exact pB⟩; clear HO_153003 HO_7 BK147 BK148 BK152 HB hq_; have HO_153003 := n0_; have HO_7 := n1_; have BK147 := n2_; have BK148 := n3_; have BK152 := n4_; have HB := n5_; clear n0_ n1_ n2_ n3_ n4_ n5_))))
           replace HO_7 := Aside0.mk (Kd.R_drew HO_7.out)
           replace HO_153003 := Aside0.mk (Kd.R_drew HO_153003.out)
           replace BK147 := Aside0.mk (blk_drew BK147.out)
           replace BK148 := Aside0.mk (blk_drew BK148.out)
           replace BK152 := Aside0.mk (blk_drew BK152.out)
           replace HB := Aside0.mk (below_drew1 HB.out)
           have p160 : 0 ≤ (x9_1 : Int) := oD
           have q160 : x9_1 < (t149.length : Int) := oD
           obtain ⟨ad160, e160, hx160_0⟩ := Kd.at_int (Kd.R_reads' HO_7.out).2.2 x9_1 p160 q160
           cases e160
           replace p160 := eq_true p160
           replace q160 := eq_true q160
           refine start_ (n := 16) (S := fun w' => w'.cell? ⟨gb152, 0, none⟩ = some (.int .i64 a1) ∧ w'.cell? ⟨gb152, 1, none⟩ = some (.int .i64 (t149.length : Int)) ∧ w'.cell? ⟨gb152, 2, none⟩ = some (.int .i64 a0_0) ∧ w'.cell? ⟨gb152, 3, none⟩ = some (u153003) ∧ w'.cell? ⟨gb147, 0, none⟩ = some (.int .i64 a0_0) ∧ w'.cell? ⟨gb147, 1, none⟩ = some (.slice A0_1 l0_1.length c0_1) ∧ w'.cell? (ad160.add (x9_1).toNat) = some (.int .i64 (rd t149 x9_1))) (ds := [13, 15]) #[false, false, false, false, false, false, false, false, false, false, false, false, false, false, false, false] kr rfl rfl ⟨(blk_cell BK152.out 0).trans rfl, (blk_cell BK152.out 1).trans rfl, (blk_cell BK152.out 2).trans rfl, (blk_cell BK152.out 3).trans rfl, (blk_cell BK147.out 0).trans rfl, (blk_cell BK147.out 1).trans rfl, hx160_0⟩ (fun hHeld => ?_); refine with_tabW spec_l26Start.tab11 spec_l26Start.bits11 (fun HT_ HW_ => ?_)
           generalize wr.drew = w39 at HO_7 HO_153003 BK147 BK148 BK152 HB hx160_0 hHeld ⊢
           refine pA 0 46 (any_of HT_.out kr) ?_
           refine pA 3 49 (any_of HT_.out kr) ?_
           refine pA 4 50 (any_of HT_.out kr) ?_
           refine pA 6 52 (any_of HT_.out kr) ?_
           refine pA 7 53 (any_of HT_.out kr) ?_
           refine pA 8 54 (any_of HT_.out kr) ?_
           refine tA7 1 47 (take_ofW HT_.out HW_.out kr) hHeld ?_
           refine tA7 2 48 (take_ofW HT_.out HW_.out kr) hHeld ?_
           refine tA7 9 55 (take_ofW HT_.out HW_.out kr) hHeld ?_
           refine one_ (i := 5) (N := some 51) #[true, true, true, true, true, true, true, true, true, true, false, false, false, false, false, false] rfl rfl (one_of HT_.out kr) (by decide) (fun K hK => ?_)
           refine goes_ Try.func42 kr rfl #[.agg #[.int .i64 a0_0, .slice A0_1 l0_1.length c0_1], .int .i64 a2, .int .i64 x10_2] (by rfl) rfl rfl p5 ?_
           with_reducible refine (spec_CircuitOf.calls k2 a0_0 _ _ l0_1 a2 x10_2 t159 _ ?side1 ?side2 A30.out).mono ?_
           (case side1 => exact pC (Kd.C_below HR0_1.out HB.out))
           (case side2 => exact HC0_1.out)
           rintro e w40 ⟨rfl, hb⟩
           have HS6_ := (hb.cell (World.block_lt_of_cell? _ _ (hHeld.2.2.2.2.2.2))).trans (hHeld.2.2.2.2.2.2)
           refine ⟨_, rfl, ?_⟩
           replace HO_7 := Aside0.mk (Kd.R_below (pR HO_7.out) hb)
           replace HO_153003 := Aside0.mk (Kd.R_below (pR HO_153003.out) hb)
           replace BK147 := Aside0.mk (bB BK147.out hb)
           replace BK148 := Aside0.mk (bB BK148.out hb)
           replace BK152 := Aside0.mk (bB BK152.out hb)
           replace HB := Aside0.mk (below_step pB hb)
           (try clear hb)
           (try clear hb2)
           (try clear hk)
           (try clear hi)
           refine hK.out _ _ ⟨(blk_cell BK152.out 0).trans rfl, (blk_cell BK152.out 1).trans rfl, (blk_cell BK152.out 2).trans rfl, (blk_cell BK152.out 3).trans rfl, (blk_cell BK147.out 0).trans rfl, (blk_cell BK147.out 1).trans rfl, HS6_⟩ (fun hHeld => ?_)
           clear hK K
           refine norm_ (a' := ?_) ?_ ?_
           rotate_left
           ·show Act.put _ (some 51) _ = _
            simp only [Act.put, List.setIfInBounds_toArray, List.set_cons_zero, List.set_cons_succ, i64_w, i32_w]
            rfl
           refine one_ (i := 10) (N := some 56) #[true, true, true, true, true, true, true, true, true, true, true, false, false, false, false, false] rfl rfl (one_of HT_.out kr) (by decide) (fun K hK => ?_)
           refine goes_ Try.func40 kr rfl #[.int .i64 t159, .int .i64 (rd t149 x9_1)] (by rfl) rfl rfl p5 ?_
           with_reducible refine (spec_l2Has.calls t159 (rd t149 x9_1) t161 _ A33.out).mono ?_
           rintro e w' ⟨rfl, ⟨nd, rfl⟩⟩
           refine ⟨_, rfl, ?_⟩
           refine hK.out _ _ ⟨(blk_cell BK152.out 0).trans rfl, (blk_cell BK152.out 1).trans rfl, (blk_cell BK152.out 2).trans rfl, (blk_cell BK152.out 3).trans rfl, (blk_cell BK147.out 0).trans rfl, (blk_cell BK147.out 1).trans rfl, hHeld.2.2.2.2.2.2⟩ (fun hHeld => ?_)
           clear hK K
           refine norm_ (a' := ?_) ?_ ?_
           rotate_left
           ·show Act.put _ (some 56) _ = _
            simp only [Act.put, List.setIfInBounds_toArray, List.set_cons_zero, List.set_cons_succ, i64_w, i32_w]
            rfl
           refine one_ (i := 11) (N := some 57) #[true, true, true, true, true, true, true, true, true, true, true, true, false, false, false, false] rfl rfl (one_of HT_.out kr) (by decide) (fun K hK => ?_)
           refine goes_ Try.func41 kr rfl #[.bool t161] (by rfl) rfl rfl p5 ?_
           with_reducible refine (spec_l1Bit.calls t161 t162 _ A34.out).mono ?_
           rintro e w' ⟨rfl, ⟨nd, rfl⟩⟩
           refine ⟨_, rfl, ?_⟩
           refine hK.out _ _ ⟨(blk_cell BK152.out 0).trans rfl, (blk_cell BK152.out 1).trans rfl, (blk_cell BK152.out 2).trans rfl, (blk_cell BK152.out 3).trans rfl, (blk_cell BK147.out 0).trans rfl, (blk_cell BK147.out 1).trans rfl, hHeld.2.2.2.2.2.2⟩ (fun hHeld => ?_)
           clear hK K
           refine norm_ (a' := ?_) ?_ ?_
           rotate_left
           ·show Act.put _ (some 57) _ = _
            simp only [Act.put, List.setIfInBounds_toArray, List.set_cons_zero, List.set_cons_succ, i64_w, i32_w]
            rfl
           refine one_ (i := 12) (N := some 58) #[true, true, true, true, true, true, true, true, true, true, true, true, true, false, false, false] rfl rfl (one_of HT_.out kr) (by decide) (fun K hK => ?_)
           refine value_ (w1 := ?_) (v := ?_) (by rfl) rfl ?_ ?_
           rotate_left 2
           ·go_simp
            constructor
            ·rfl
            ·rfl
           refine hK.out _ _ ⟨(blk_cell (blk_alloc BK152.out _) 0).trans rfl, (blk_cell (blk_alloc BK152.out _) 1).trans rfl, (blk_cell (blk_alloc BK152.out _) 2).trans rfl, (blk_cell (blk_alloc BK152.out _) 3).trans rfl, (blk_cell (blk_alloc BK147.out _) 0).trans rfl, (blk_cell (blk_alloc BK147.out _) 1).trans rfl, (World.cell?_alloc_lt _ _ _ (World.block_lt_of_cell? _ _ (hHeld.2.2.2.2.2.2))).trans (hHeld.2.2.2.2.2.2)⟩ (fun hHeld => ?_)
           clear hK K
           refine norm_ (a' := ?_) ?_ ?_
           rotate_left
           ·show Act.put _ (some 58) _ = _
            simp only [Act.put, List.setIfInBounds_toArray, List.set_cons_zero, List.set_cons_succ, i64_w, i32_w]
            rfl
           refine last_ (i := 13) (N := some 59) #[true, true, true, true, true, true, true, true, true, true, true, true, true, true, false, false] rfl rfl (one_of HT_.out kr) (by decide) (fun K hK => ?_)
           refine Kd.R_append_step (Kd.int .i64) (w0 := w) w.heap.size (by rfl) (.tmp 47) (.tmp 58) 22 3 (.int .i64 0) 8 rfl Try.underlying22 info3 rfl (by decide) (by omega) u153003 x153003_2 t162 [.int .i64 t162] (fun k_ => some k_ ≠ (.slice (some ad160) t149.length co8 : Value).ownBlock) (fun _ => False) rfl rfl ?aP (fun _ hk => hk.elim) ?aF ?aO ?aB ?aS ?aL ?_
           (case aP => exact rfl)
           (case aB => exact pB)
           (case aF => exact (fun k_ hk => Kd.fresh' (Kd.R_lt (pR HO_7.out)) k_ hk))
           (case aO => exact (pR HO_153003.out))
           (case aS => exact (below_size pB))
           (case aL => have := LMc35.out; omega)
           intro v164 w41 ho hb hg hat
           rw [← Ny163.out] at ho
           have n0_ := Aside0.mk (Kd.R_after (ok := (fun _ => True)) (by (with_reducible repeat (first | apply Kd.R_alloc | apply Kd.R_drewN | apply Kd.R_drew)); exact Kd.R_mono HO_7.out (fun _ hk => ⟨trivial, hk⟩)) hg hat)
           have n1_ := Aside0.mk (blk_grown (g := gb147) (o := .cells #[.int .i64 a0_0, .slice A0_1 l0_1.length c0_1] 27 (0, 0)) (pK BK147.out) hg (Kd.R_ne HO_153003.out BK147.out (by decide)))
           have n2_ := Aside0.mk (blk_grown (g := gb148) (o := .cells #[.int .i64 0, .int .i64 0, .int .i64 0, .slice none 0 0] 32 (0, 0)) (pK BK148.out) hg (Kd.R_ne HO_153003.out BK148.out (by decide)))
           have n3_ := Aside0.mk (blk_grown (g := gb152) (o := .cells #[.int .i64 a1, .int .i64 (t149.length : Int), .int .i64 a0_0, u153003] 32 (0, 0)) (pK BK152.out) hg (Kd.R_ne HO_153003.out BK152.out (by decide)))
           have n4_ := Aside0.mk (hb)
           have n5_ := Aside0.mk (ho)
           clear HO_7
           clear BK147
           clear BK148
           clear BK152
           clear HB
           clear HO_153003
           have HO_7 := n0_
           have BK147 := n1_
           have BK148 := n2_
           have BK152 := n3_
           have HB := n4_
           have HO165 := n5_
           clear n0_ n1_ n2_ n3_ n4_ n5_
           clear ho hb hg hat
           obtain ⟨Ao42, co42, eo42⟩ := Kd.R_slice HO165.out
           (first | subst eo42 | (injection eo42 with f1_ f2_ f3_; have f4_ := f1_.symm; have f5_ := f3_.symm; clear f1_ f2_ f3_; subst f4_; subst f5_))
           refine hK.out _ _ ?_
           clear hK K
           refine norm_ (a' := ?_) ?_ ?_
           rotate_left
           ·show Act.put _ (some 59) _ = _
            simp only [Act.put, List.setIfInBounds_toArray, List.set_cons_zero, List.set_cons_succ, i64_w, i32_w]
            rfl
           refine pA 14 60 (any_of HT_.out kr) ?_
           refine last_ (i := 15) (N := none) #[true, true, true, true, true, true, true, true, true, true, true, true, true, true, true, true] rfl rfl (one_of HT_.out kr) (by decide) (fun K hK => ?_)
           have hs43 : w41.cell? ⟨gb152, 3, none⟩ = some (u153003) := (blk_cell BK152.out 3).trans rfl
           have hfs43 := blk_frozen BK152.out 3
           have hns43_0 := NB147_152.out
           have hns43_1 := NB148_152.out
           have hms43_0 := NB152_147.out
           have hms43_1 := NB152_148.out
           refine skip_ (w1 := ?_) (by rfl) rfl ?_ ?_
           rotate_left
           ·go_simp
            rfl
           refine hK.out _ _ ?_
           clear hK K
           refine done_ (done_of HT_.out kr) ?_
           try go_wp2
           go_roundg k2
           case measure => have := HK1.out; have := HK2.out; omega
           case rel => exact ⟨(wrap64 (x10_2 + 1)), (y163), (.slice Ao42 y163.length co42), p7, H', ⟨by have := HK1.out; have := HK2.out; omega⟩, ⟨by (with_reducible repeat (first | apply Kd.R_alloc | apply Kd.R_drewN | apply Kd.R_drew)); exact Kd.R_mono (Kd.R_far (p := ⟨gb152, 3, none⟩) (Kd.R_types HO_7.out BK152.out (by decide)) (fun _ hk => hk.2) (.slice Ao42 y163.length co42)) (fun _ hk => hk.1.2)⟩, ⟨by (with_reducible repeat (first | apply Kd.R_alloc | apply Kd.R_drewN | apply Kd.R_drew)); exact Kd.R_mono (Kd.R_far (p := ⟨gb152, 3, none⟩) (Kd.R_types HO165.out BK152.out (by decide)) (fun _ hk => hk.2) (.slice Ao42 y163.length co42)) (fun _ hk => hk.1)⟩, ⟨by (with_reducible repeat (first | refine blk_drewN ?_ _ | refine blk_drew ?_ | refine blk_alloc ?_ _)); refine blk_far ?_ NB147_152.out _; (with_reducible repeat (first | refine blk_drewN ?_ _ | refine blk_drew ?_ | refine blk_alloc ?_ _)); exact BK147.out⟩, ⟨by (with_reducible repeat (first | refine blk_drewN ?_ _ | refine blk_drew ?_ | refine blk_alloc ?_ _)); refine blk_far ?_ NB148_152.out _; (with_reducible repeat (first | refine blk_drewN ?_ _ | refine blk_drew ?_ | refine blk_alloc ?_ _)); exact BK148.out⟩, ⟨by (with_reducible repeat (first | refine blk_drewN ?_ _ | refine blk_drew ?_ | refine blk_alloc ?_ _)); refine blk_put (cs := #[.int .i64 a1, .int .i64 (t149.length : Int), .int .i64 a0_0, u153003]) ?_ 3 _ rfl; (with_reducible repeat (first | refine blk_drewN ?_ _ | refine blk_drew ?_ | refine blk_alloc ?_ _)); exact BK152.out⟩, ⟨pB⟩⟩
          ·rw [if_neg c35] at H
           exact absurd H (by simp)
         ·rw [if_neg c32] at H
          exact absurd H (by simp)
        ·rw [if_neg c31] at H
         exact absurd H (by simp)
      ·rw [if_neg c16] at H
       have c16b0 : decide (x10_2 < a0_0) = false := decide_eq_false c16
       clear c16
       have H' := Aside0.mk H
       clear H
       have hnb44 := NB147_148.out
       have hnc44 := NB148_147.out
       have hnb45 := NB147_152.out
       have hnc45 := NB152_147.out
       obtain ⟨hcz46_0, hcz46_1, hfz46_0, hfz46_1⟩ := bc2 BK147.out
       go_wp2
       go_roundg k2
       case measure => have := HK1.out; have := HK2.out; omega
       case rel => exact ⟨(wrap64 (x9_1 + 1)), (x153003_2), (u153003), p7, H', ⟨by have := HK1.out; have := HK2.out; omega⟩, ⟨pR HO_7.out⟩, ⟨pR HO_153003.out⟩, ⟨pK BK147.out⟩, ⟨pK BK148.out⟩, ⟨pK BK152.out⟩, ⟨pB⟩⟩
   ·rw [if_neg c15] at H
    have c15b0 : decide (x9_1 < (t149.length : Int)) = false := decide_eq_false c15
    clear c15
    simp only [Option.some.injEq, Prod.mk.injEq] at H
    obtain ⟨rfl, rfl, rfl, rfl⟩ := H
    have hnb47 := NB152_147.out
    have hnc47 := NB147_152.out
    have hnb48 := NB152_148.out
    have hnc48 := NB148_152.out
    obtain ⟨hcz49_0, hcz49_1, hcz49_2, hcz49_3, hfz49_0, hfz49_1, hfz49_2, hfz49_3⟩ := bc4 BK152.out
    have hnb50 := NB148_147.out
    have hnc50 := NB147_148.out
    obtain ⟨hcz51_0, hcz51_1, hcz51_2, hcz51_3, hfz51_0, hfz51_1, hfz51_2, hfz51_3⟩ := bc4 BK148.out
    obtain ⟨Ao52, co52, eo52⟩ := Kd.R_slice HO_153003.out
    subst eo52
    go_wp2
    refine bodyPost_ret (results_cell_row rfl _ _ gb148 32 #[.int .i64 a1, .int .i64 (t149.length : Int), .int .i64 a0_0, .slice Ao52 x153003_1.length co52] (0, 0) _ rfl (by (with_reducible repeat (first | refine blk_drewN ?_ _ | refine blk_drew ?_ | refine blk_alloc ?_ _)); refine blk_put (cs := #[.int .i64 a1, .int .i64 (t149.length : Int), .int .i64 a0_0, .slice none 0 0]) ?_ 3 _ rfl; (with_reducible repeat (first | refine blk_drewN ?_ _ | refine blk_drew ?_ | refine blk_alloc ?_ _)); refine blk_put (cs := #[.int .i64 a1, .int .i64 (t149.length : Int), .int .i64 0, .slice none 0 0]) ?_ 2 _ rfl; (with_reducible repeat (first | refine blk_drewN ?_ _ | refine blk_drew ?_ | refine blk_alloc ?_ _)); refine blk_put (cs := #[.int .i64 a1, .int .i64 0, .int .i64 0, .slice none 0 0]) ?_ 1 _ rfl; (with_reducible repeat (first | refine blk_drewN ?_ _ | refine blk_drew ?_ | refine blk_alloc ?_ _)); refine blk_put (cs := #[.int .i64 0, .int .i64 0, .int .i64 0, .slice none 0 0]) ?_ 0 _ rfl; exact pK BK148.out) Try.underlying32 rfl kr) rfl ?_
    exact ⟨_, p8, by (with_reducible repeat (first | apply Kd.R_alloc | apply Kd.R_drewN | apply Kd.R_drew)); exact Kd.R_mono (Kd.R_far (p := ⟨gb148, 3, none⟩) (Kd.R_far (p := ⟨gb148, 2, none⟩) (Kd.R_far (p := ⟨gb148, 1, none⟩) (Kd.R_far (p := ⟨gb148, 0, none⟩) (Kd.R_types HO_153003.out BK148.out (by decide)) (fun _ hk => hk.2) (.int .i64 a1)) (fun _ hk => hk.2) (.int .i64 (t149.length : Int))) (fun _ hk => hk.2) (.int .i64 a0_0)) (fun _ hk => hk.2) (.slice Ao52 x153003_1.length co52)) (fun _ hk => trivial), pB⟩
end Go.Proofs.Ytbhckhblonkajaa.Q
