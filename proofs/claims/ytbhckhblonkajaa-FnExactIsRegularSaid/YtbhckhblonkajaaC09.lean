/- Part of a proof: contracts and lemmas that the row's text uses; joined by a program. -/
import Derived.Test.YtbhckhblonkajaaC04
import Derived.Test.YtbhckhblonkajaaC08
set_option linter.unusedVariables false
set_option linter.unusedSimpArgs false
namespace Go.Proofs.Ytbhckhblonkajaa.Q
open Go.RowKit Go.Proofs.YtbhckhblonkajaaW.PrintWords Go.Proofs.YtbhckhblonkajaaW.PrintLast Go.Proofs.YtbhckhblonkajaaW.PrintMore
attribute [local go_sem] max2_int min2_int max_two min_two max_three min_three max_four min_four
mutual
def impl_reduce.l0 : Nat → List (List Int) → Int → Int → Int → Int → List Int → Option (Int × Int × Int × List Int × List Int)
 | 0, _, _, _, _, _, _ => none
 | k + 1, x4, x5, x544000, x544001, x544002, x544003 => if x5 < x544001 then ((some (([] : List Int) : List Int)).bind fun y548 => (if 0 ≤ (wrap64 (x5 * x544002)) then (if (wrap64 (x5 * x544002)) ≤ (wrap64 ((wrap64 (x5 + 1)) * x544002)) then (if (wrap64 ((wrap64 (x5 + 1)) * x544002)) ≤ (x544003.length : Int) then (if y548.length + ((x544003.take ((wrap64 ((wrap64 (x5 + 1)) * x544002)) : Int).toNat).drop ((wrap64 (x5 * x544002)) : Int).toNat).length < 17592186044416 then (if x4.length < 5864062014805 then (impl_reduce.l0 k (x4 ++ [(y548 ++ ((x544003.take ((wrap64 ((wrap64 (x5 + 1)) * x544002)) : Int).toNat).drop ((wrap64 (x5 * x544002)) : Int).toNat))]) (wrap64 (x5 + 1)) x544000 x544001 x544002 x544003) else (none)) else (none)) else (none)) else (none)) else (none))) else (impl_reduce.l1 k x4 (([] : List Int)) 0 x544000 x544001 x544002 x544003)
def impl_reduce.l1 : Nat → List (List Int) → List Int → Int → Int → Int → Int → List Int → Option (Int × Int × Int × List Int × List Int)
 | 0, _, _, _, _, _, _, _ => none
 | k + 1, x4, x6, x7, x544000, x544001, x544002, x544003 => if x7 < x544002 then (impl_reduce.l2 k x4 x6 x7 (x6.length : Int) (x6.length : Int) x544000 x544001 x544002 x544003) else (if 0 ≤ (x6.length : Int) then (if (x6.length : Int) ≤ (x4.length : Int) then ((some (x4.take ((x6.length : Int) : Int).toNat : List (List Int))).bind fun y591 => (impl_reduce.l6 k x6 y591 (y591.length : Int) 0 x544000 (x6.length : Int) x544002 (([] : List Int)))) else (none)) else (none))
def impl_reduce.j3 : Nat → List (List Int) → List Int → Int → Int → Int → Int → Int → Int → List Int → Option (Int × Int × Int × List Int × List Int)
 | 0, _, _, _, _, _, _, _, _, _ => none
 | k + 1, x4, x6, x7, x8, x9, x544000, x544001, x544002, x544003 => if x9 ≥ (x4.length : Int) then (impl_reduce.l1 k x4 x6 (wrap64 (x7 + 1)) x544000 x544001 x544002 x544003) else ((swapRows.f x4 x8 x9).bind fun t563 => (if 0 ≤ x8 then (if x8 < (x4.length : Int) then (if 0 ≤ x7 then (if x7 < ((rd_L1 t563 x8).length : Int) then ((impl_InverseIn.f k x544000 (rd (rd_L1 t563 x8) x7)).bind fun t566 => (impl_reduce.l3 k t563 x6 x7 x8 t566 ((rd_L1 t563 x8).length : Int) 0 x544000 x544001 x544002 x544003)) else (none)) else (none)) else (none)) else (none)))
def impl_reduce.l3 : Nat → List (List Int) → List Int → Int → Int → Int → Int → Int → Int → Int → Int → List Int → Option (Int × Int × Int × List Int × List Int)
 | 0, _, _, _, _, _, _, _, _, _, _, _ => none
 | k + 1, x4, x6, x7, x8, x10, x100, x101, x544000, x544001, x544002, x544003 => if x101 < x100 then (if 0 ≤ x8 then (if x8 < (x4.length : Int) then (if 0 ≤ x101 then (if x101 < ((rd_L1 x4 x8).length : Int) then (if x544000 = 0 then (none) else (impl_reduce.l3 k (x4.set (x8 : Int).toNat ((rd_L1 x4 x8).set (x101 : Int).toNat (Int.tmod (wrap64 ((rd (rd_L1 x4 x8) x101) * x10)) x544000))) x6 x7 x8 x10 x100 (wrap64 (x101 + 1)) x544000 x544001 x544002 x544003)) else (none)) else (none)) else (none)) else (none)) else (impl_reduce.l4 k x4 x6 x7 x8 (x4.length : Int) 0 x544000 x544001 x544002 x544003)
def impl_reduce.l4 : Nat → List (List Int) → List Int → Int → Int → Int → Int → Int → Int → Int → List Int → Option (Int × Int × Int × List Int × List Int)
 | 0, _, _, _, _, _, _, _, _, _, _ => none
 | k + 1, x4, x6, x7, x8, x124, x125, x544000, x544001, x544002, x544003 => if x125 < x124 then (if 0 ≤ x125 then (if x125 < (x4.length : Int) then (if 0 ≤ x7 then (if x7 < ((rd_L1 x4 x125).length : Int) then (impl_reduce.l5 k x4 x6 x7 x8 x125 (rd (rd_L1 x4 x125) x7) 0 x124 x125 x544000 x544001 x544002 x544003) else (none)) else (none)) else (none)) else (none)) else (if x6.length < 17592186044416 then (impl_reduce.l1 k x4 (x6 ++ [x7]) (wrap64 (x7 + 1)) x544000 x544001 x544002 x544003) else (none))
def impl_reduce.l5 : Nat → List (List Int) → List Int → Int → Int → Int → Int → Int → Int → Int → Int → Int → Int → List Int → Option (Int × Int × Int × List Int × List Int)
 | 0, _, _, _, _, _, _, _, _, _, _, _, _, _ => none
 | k + 1, x4, x6, x7, x8, x12, x13, x14, x124, x125, x544000, x544001, x544002, x544003 => if x14 < x544002 then (if x12 = x8 then (impl_reduce.l4 k x4 x6 x7 x8 x124 (wrap64 (x125 + 1)) x544000 x544001 x544002 x544003) else (if 0 ≤ x12 then (if x12 < (x4.length : Int) then (if 0 ≤ x14 then (if x14 < ((rd_L1 x4 x12).length : Int) then (if 0 ≤ x8 then (if x8 < (x4.length : Int) then (if x14 < ((rd_L1 x4 x8).length : Int) then (if x544000 = 0 then (none) else (impl_reduce.l5 k (x4.set (x12 : Int).toNat ((rd_L1 x4 x12).set (x14 : Int).toNat (Int.tmod (wrap64 ((rd (rd_L1 x4 x12) x14) + (wrap64 ((wrap64 (x544000 - x13)) * (rd (rd_L1 x4 x8) x14))))) x544000))) x6 x7 x8 x12 x13 (wrap64 (x14 + 1)) x124 x125 x544000 x544001 x544002 x544003)) else (none)) else (none)) else (none)) else (none)) else (none)) else (none)) else (none))) else (impl_reduce.l4 k x4 x6 x7 x8 x124 (wrap64 (x125 + 1)) x544000 x544001 x544002 x544003)
def impl_reduce.l2 : Nat → List (List Int) → List Int → Int → Int → Int → Int → Int → Int → List Int → Option (Int × Int × Int × List Int × List Int)
 | 0, _, _, _, _, _, _, _, _, _ => none
 | k + 1, x4, x6, x7, x8, x9, x544000, x544001, x544002, x544003 => if x9 < (x4.length : Int) then (if 0 ≤ x9 then (if 0 ≤ x7 then (if x7 < ((rd_L1 x4 x9).length : Int) then (if (rd (rd_L1 x4 x9) x7) = 0 then (impl_reduce.l2 k x4 x6 x7 x8 (wrap64 (x9 + 1)) x544000 x544001 x544002 x544003) else (impl_reduce.j3 k x4 x6 x7 x8 x9 x544000 x544001 x544002 x544003)) else (none)) else (none)) else (none)) else (impl_reduce.j3 k x4 x6 x7 x8 x9 x544000 x544001 x544002 x544003)
def impl_reduce.l6 : Nat → List Int → List (List Int) → Int → Int → Int → Int → Int → List Int → Option (Int × Int × Int × List Int × List Int)
 | 0, _, _, _, _, _, _, _, _ => none
 | k + 1, x6, x191, x192, x193, x591000, x591001, x591002, x591003 => if x193 < x192 then (if 0 ≤ x193 then (if x193 < (x191.length : Int) then (if x591003.length + (rd_L1 x191 x193).length < 17592186044416 then (impl_reduce.l6 k x6 x191 x192 (wrap64 (x193 + 1)) x591000 x591001 x591002 (x591003 ++ (rd_L1 x191 x193))) else (none)) else (none)) else (none)) else (some (x591000, x591001, x591002, x591003, x6))
end
def impl_reduce.f (k : Nat) (a0_0 : Int) (a0_1 : Int) (a0_2 : Int) (l0_3 : List Int) : Option (Int × Int × Int × List Int × List Int) := impl_reduce.l0 k (([] : List (List Int))) 0 a0_0 a0_1 a0_2 l0_3
def impl_reduce.T16 : Bool × List (List Nat × List Nat) := (true, [([], []), ([0], [0]), ([], []), ([], []), ([2, 3], [2, 3]), ([4], [4]), ([], []), ([5, 6], [5, 6]), ([7], [7]), ([1, 8], [1, 8]), ([9, 9, 0, 1, 2, 3, 4, 5, 6, 7, 8, 9], [9])])
def impl_reduce.B16 : List Nat := [0, 1, 0, 0, 12, 28, 0, 124, 252, 511, 1023]
theorem impl_reduce.tab16 : rtab .any (opsOf Try.f77 16) = impl_reduce.T16 := by kernel_rfl
theorem impl_reduce.bits16 : waitsOk impl_reduce.T16.2 impl_reduce.B16 = true := by kernel_rfl
def impl_reduce.T20 : Bool × List (List Nat × List Nat) := (true, [([], []), ([], []), ([0, 1], [0, 1]), ([2], [2]), ([], []), ([], []), ([], []), ([5, 6], [5, 6]), ([7], [7]), ([], []), ([8, 9], [8, 9]), ([10], [10]), ([], []), ([11, 12], [11, 12]), ([], []), ([14], [14]), ([13, 15], [13, 15]), ([3, 4, 0, 1, 2, 3, 4, 5, 6, 7, 8, 9, 10, 11, 12, 13, 14, 15, 16], [3, 4]), ([17, 16, 0, 1, 2, 3, 4, 5, 6, 7, 8, 9, 10, 11, 12, 13, 14, 15, 16], [16, 17])])
def impl_reduce.B20 : List Nat := [0, 0, 3, 7, 0, 0, 0, 96, 224, 0, 992, 2016, 0, 8160, 0, 16384, 65504, 131071, 262143]
theorem impl_reduce.tab20 : rtab .any (opsOf Try.f77 20) = impl_reduce.T20 := by kernel_rfl
theorem impl_reduce.bits20 : waitsOk impl_reduce.T20.2 impl_reduce.B20 = true := by kernel_rfl
def impl_reduce.T29 : Bool × List (List Nat × List Nat) := (true, [([], []), ([], []), ([0, 1], [0, 1]), ([2], [2]), ([], []), ([], []), ([], []), ([5, 6], [5, 6]), ([7], [7]), ([], []), ([8, 9], [8, 9]), ([10], [10]), ([], []), ([12], [12]), ([], []), ([13, 14], [13, 14]), ([], []), ([], []), ([16, 17], [16, 17]), ([18], [18]), ([], []), ([19, 20], [19, 20]), ([21], [21]), ([15, 22], [15, 22]), ([11, 23], [11, 23]), ([], []), ([25], [25]), ([24, 26], [24, 26]), ([3, 4, 0, 1, 2, 3, 4, 5, 6, 7, 8, 9, 10, 11, 12, 13, 14, 15, 16, 17, 18, 19, 20, 21, 22, 23, 24, 25, 26, 27], [3, 4]), ([28, 27, 0, 1, 2, 3, 4, 5, 6, 7, 8, 9, 10, 11, 12, 13, 14, 15, 16, 17, 18, 19, 20, 21, 22, 23, 24, 25, 26, 27], [27, 28])])
def impl_reduce.B29 : List Nat := [0, 0, 3, 7, 0, 0, 0, 96, 224, 0, 992, 2016, 0, 4096, 0, 28672, 0, 0, 196608, 458752, 0, 2031616, 4128768, 8384512, 16777184, 0, 33554432, 134217696, 268435455, 536870911]
theorem impl_reduce.tab29 : rtab .any (opsOf Try.f77 29) = impl_reduce.T29 := by kernel_rfl
theorem impl_reduce.bits29 : waitsOk impl_reduce.T29.2 impl_reduce.B29 = true := by kernel_rfl
set_option maxHeartbeats 8000000 in
set_option maxRecDepth 100000 in
theorem impl_reduce.calls (k : Nat) (a0_0 : Int) (a0_1 : Int) (a0_2 : Int) (A0_3 : Option Addr) (c0_3 : Nat) (l0_3 : List Int) (r1 : Int) (r2 : Int) (r3 : Int) (r4 : List Int) (r5 : List Int) (w : World) (hr0_3 : Kd.C (Kd.int .i64) w A0_3 l0_3.length l0_3) (hc0_3 : l0_3.length ≤ c0_3) (h : impl_reduce.f k a0_0 a0_1 a0_2 l0_3 = some (r1, r2, r3, r4, r5)) :
  Calls Try.prog 77 #[.agg #[.int .i64 a0_0, .int .i64 a0_1, .int .i64 a0_2, .slice A0_3 l0_3.length c0_3]] w fun e w' => ∃ v3_ v4_ : Value, e = .returned (.tuple #[.agg #[.int .i64 r1, .int .i64 r2, .int .i64 r3, v3_], v4_]) ∧ Kd.R (Kd.int .i64) 3 w' w.heap.size (fun k_ => some k_ ≠ (v4_ : Value).ownBlock) v3_ r4 ∧ Kd.R (Kd.int .i64) 3 w' w.heap.size (fun k_ => some k_ ≠ (v3_ : Value).ownBlock) v4_ r5 ∧ Below w.heap.size w w' := by
 have hu32 := Try.underlying32
 have HR0_3 := Aside0.mk hr0_3
 have HC0_3 := Aside0.mk hc0_3
 clear hr0_3 hc0_3
 have HB := Aside0.mk (Below.refl w.heap.size w)
 have H : (impl_reduce.l0 k (([] : List (List Int))) 0 a0_0 a0_1 a0_2 l0_3) = some (r1, r2, r3, r4, r5) := h
 clear h
 obtain ⟨y545, hy545⟩ : ∃ y_ : List (List Int), y_ = (([] : List (List Int))) := ⟨_, rfl⟩
 replace H : (impl_reduce.l0 k y545 0 a0_0 a0_1 a0_2 l0_3) = some (r1, r2, r3, r4, r5) := by first | (rw [hy545]; with_reducible exact H) | (have H2_ := (Option.bind_some _ _).symm.trans H; rw [hy545]; with_reducible exact H2_) | (have H2_ := (Option.bind_some _ _).symm.trans H; with_reducible exact H2_) | with_reducible exact H | (rw [hy545]; exact H) | exact H
 have Ny545 := Aside0.mk hy545
 clear hy545
 have H' := Aside0.mk H
 clear H
 go_enter Try.func77, Try.ntmps77
 go_wp2_with (first | ((with_reducible refine gate_dst (N := 1) rfl ?_); refine box_event ?hg (N := 1) ?hd (cs := #[.int .i64 a0_0, .int .i64 a0_1, .int .i64 a0_2, .slice A0_3 l0_3.length c0_3]) (t := 32) ?hr ?_; (case hd => rfl); (case hg => rfl); (case hr => first | (go_simp; done) | (go_simp; rfl)); intro gb543 hg w2 hbox hb; have BK543 := Aside0.mk (hbox); have GW543 := Aside0.mk (bZ (w := w) hg); have GE543 := Aside0.mk (bZ (w := w) hg); replace HB := Aside0.mk (below_step pB hb); clear hb hbox hg) | ((with_reducible refine gate_dst (N := 2) rfl ?_); refine box_event ?hg (N := 2) ?hd (cs := #[.int .i64 0, .int .i64 0, .int .i64 0, .slice none 0 0]) (t := 32) ?hr ?_; (case hd => rfl); (case hg => rfl); (case hr => first | (go_simp; done) | (go_simp; rfl)); intro gb544 hg w3 hbox hb; have BK544 := Aside0.mk (hbox); have GW544 := Aside0.mk (bZ (w := w) hg); have GE544 := Aside0.mk (bZ (w := w) hg); replace HB := Aside0.mk (below_step pB hb); have NB543_544 := Aside0.mk (bL BK543.out hg); have NB544_543 := Aside0.mk (bG BK543.out hg); replace BK543 := Aside0.mk (bB BK543.out hb); clear hb hbox hg) | ((with_reducible refine gate_dst (N := 18) rfl ?_); refine Kd.S_lit (Kd.slice 3 (Kd.int .i64)) _ 22 ?hg (N := 18) ?hd (xs := ([] : List (List Int))) (inner := []) (ok := fun _ => True) (okp := fun _ => True) ?hr ?hp (fun _ hk => hk) trivial (Below.refl _ _) (Nat.le_refl _) (by simp) ?_; (case hd => rfl); (case hg => rfl); (case hr => first | (go_simp; done) | (go_simp; rfl)); (case hp => exact (Reps.none _ _)); intro v546 w4 ho5 hb hg_ hnew_; clear hg_ hnew_; (first | rw [← Ny545.out] at ho5 | (simp only [Int.reduceToNat] at ho5; rw [← Ny545.out] at ho5)); have HO547 := Aside0.mk (Kd.S_lower ho5 (below_size pB)); replace BK543 := Aside0.mk (bB BK543.out hb); replace BK544 := Aside0.mk (bB BK544.out hb); replace HB := Aside0.mk (below_step pB hb); clear hb ho5))
 go_loopg [4, 5] k (fun kq v4 v5 w' => ∃ (x4_1 : List (List Int)) (x5_1 : Int), v5 = .int .i64 x5_1 ∧ Aside0 (impl_reduce.l0 kq x4_1 x5_1 a0_0 a0_1 a0_2 l0_3 = some (r1, r2, r3, r4, r5)) ∧ Aside0 (kq ≤ k) ∧ Aside0 (Kd.S (Kd.slice 3 (Kd.int .i64)) 22 w' w.heap.size (fun _ => True) v4 x4_1) ∧ Aside0 (w'.heap[gb543]? = some (.cells #[.int .i64 a0_0, .int .i64 a0_1, .int .i64 a0_2, (.slice A0_3 l0_3.length c0_3)] 32 (0, 0))) ∧ Aside0 (w'.heap[gb544]? = some (.cells #[.int .i64 0, .int .i64 0, .int .i64 0, (.slice none 0 0)] 32 (0, 0))) ∧ Aside0 (Below w.heap.size w w'))
 case atStart => exact ⟨(y545), (0), p7, H', ⟨Nat.le_refl _⟩, ⟨by (with_reducible repeat (first | apply Kd.S_alloc | apply Kd.S_drewN | apply Kd.S_drew)); exact HO547.out⟩, ⟨pK BK543.out⟩, ⟨pK BK544.out⟩, ⟨pB⟩⟩
 case round =>
  clear H'
  obtain ⟨x4_1, x5_1, rfl, HA, HK1, HO_4, BK543, BK544, HB⟩ := hrel
  cases gk with
  | zero => exact absurd HA.out (by simp [impl_reduce.l0])
  | succ k1 =>
   have H := HA.out
   clear HA
   simp only [impl_reduce.l0] at H
   by_cases c6 : x5_1 < a0_1
   ·rw [if_pos c6] at H
    have c6b0 : decide (x5_1 < a0_1) = true := decide_eq_true c6
    clear c6
    obtain ⟨y548, hy548⟩ : ∃ y_ : List Int, y_ = (([] : List Int)) := ⟨_, rfl⟩
    replace H : (if 0 ≤ (wrap64 (x5_1 * a0_2)) then (if (wrap64 (x5_1 * a0_2)) ≤ (wrap64 ((wrap64 (x5_1 + 1)) * a0_2)) then (if (wrap64 ((wrap64 (x5_1 + 1)) * a0_2)) ≤ (l0_3.length : Int) then (if y548.length + ((l0_3.take ((wrap64 ((wrap64 (x5_1 + 1)) * a0_2)) : Int).toNat).drop ((wrap64 (x5_1 * a0_2)) : Int).toNat).length < 17592186044416 then (if x4_1.length < 5864062014805 then (impl_reduce.l0 k1 (x4_1 ++ [(y548 ++ ((l0_3.take ((wrap64 ((wrap64 (x5_1 + 1)) * a0_2)) : Int).toNat).drop ((wrap64 (x5_1 * a0_2)) : Int).toNat))]) (wrap64 (x5_1 + 1)) a0_0 a0_1 a0_2 l0_3) else (none)) else (none)) else (none)) else (none)) else (none)) = some (r1, r2, r3, r4, r5) := by first | (rw [hy548]; with_reducible exact H) | (have H2_ := (Option.bind_some _ _).symm.trans H; rw [hy548]; with_reducible exact H2_) | (have H2_ := (Option.bind_some _ _).symm.trans H; with_reducible exact H2_) | with_reducible exact H | (rw [hy548]; exact H) | exact H
    have Ny548 := Aside0.mk hy548
    clear hy548
    obtain ⟨ji7, hji7⟩ : ∃ j_ : Int, (wrap64 (x5_1 * a0_2)) = j_ := ⟨_, rfl⟩
    replace H : (if 0 ≤ (ji7) then (if (ji7) ≤ (wrap64 ((wrap64 (x5_1 + 1)) * a0_2)) then (if (wrap64 ((wrap64 (x5_1 + 1)) * a0_2)) ≤ (l0_3.length : Int) then (if y548.length + ((l0_3.take ((wrap64 ((wrap64 (x5_1 + 1)) * a0_2)) : Int).toNat).drop ((ji7) : Int).toNat).length < 17592186044416 then (if x4_1.length < 5864062014805 then (impl_reduce.l0 k1 (x4_1 ++ [(y548 ++ ((l0_3.take ((wrap64 ((wrap64 (x5_1 + 1)) * a0_2)) : Int).toNat).drop ((ji7) : Int).toNat))]) (wrap64 (x5_1 + 1)) a0_0 a0_1 a0_2 l0_3) else (none)) else (none)) else (none)) else (none)) else (none)) = some (r1, r2, r3, r4, r5) := by first | (rw [hji7] at H; exact H) | (simp only [hji7] at H ⊢; exact H)
    have hji7w : (IntKind.i64.wrap (x5_1 * a0_2)) = ji7 := (i64_w _).trans hji7
    by_cases c8 : 0 ≤ (ji7)
    ·rw [if_pos c8] at H
     have c8b0 := eq_true c8
     have c8b1 : decide (0 ≤ (ji7)) = true := decide_eq_true c8
     clear c8
     by_cases c9 : (ji7) ≤ (wrap64 ((wrap64 (x5_1 + 1)) * a0_2))
     ·rw [if_pos c9] at H
      have c9b0 := eq_true c9
      have c9b1 : decide ((ji7) ≤ (wrap64 ((wrap64 (x5_1 + 1)) * a0_2))) = true := decide_eq_true c9
      by_cases c10 : (wrap64 ((wrap64 (x5_1 + 1)) * a0_2)) ≤ (l0_3.length : Int)
      ·rw [if_pos c10] at H
       have c10b0 := eq_true c10
       have c10b1 : decide ((wrap64 ((wrap64 (x5_1 + 1)) * a0_2)) ≤ (l0_3.length : Int)) = true := decide_eq_true c10
       by_cases c11 : y548.length + ((l0_3.take ((wrap64 ((wrap64 (x5_1 + 1)) * a0_2)) : Int).toNat).drop ((ji7) : Int).toNat).length < 17592186044416
       ·rw [if_pos c11] at H
        have LMc11 := Aside0.mk c11
        clear c11
        obtain ⟨y552, hy552⟩ : ∃ y_ : List Int, y_ = (y548 ++ ((l0_3.take ((wrap64 ((wrap64 (x5_1 + 1)) * a0_2)) : Int).toNat).drop ((ji7) : Int).toNat)) := ⟨_, rfl⟩
        replace H : (if x4_1.length < 5864062014805 then (impl_reduce.l0 k1 (x4_1 ++ [y552]) (wrap64 (x5_1 + 1)) a0_0 a0_1 a0_2 l0_3) else (none)) = some (r1, r2, r3, r4, r5) := by first | (rw [hy552]; with_reducible exact H) | (have H2_ := (Option.bind_some _ _).symm.trans H; rw [hy552]; with_reducible exact H2_) | (have H2_ := (Option.bind_some _ _).symm.trans H; with_reducible exact H2_) | with_reducible exact H | (rw [hy552]; exact H) | exact H
        have Ny552 := Aside0.mk hy552
        clear hy552
        by_cases c12 : x4_1.length < 5864062014805
        ·rw [if_pos c12] at H
         have LMc12 := Aside0.mk c12
         clear c12
         obtain ⟨y555, hy555⟩ : ∃ y_ : List (List Int), y_ = (x4_1 ++ [y552]) := ⟨_, rfl⟩
         replace H : (impl_reduce.l0 k1 y555 (wrap64 (x5_1 + 1)) a0_0 a0_1 a0_2 l0_3) = some (r1, r2, r3, r4, r5) := by first | (rw [hy555]; with_reducible exact H) | (have H2_ := (Option.bind_some _ _).symm.trans H; rw [hy555]; with_reducible exact H2_) | (have H2_ := (Option.bind_some _ _).symm.trans H; with_reducible exact H2_) | with_reducible exact H | (rw [hy555]; exact H) | exact H
         have Ny555 := Aside0.mk hy555
         clear hy555
         have H' := Aside0.mk H
         clear H
         have hnb13 := NB543_544.out
         have hnc13 := NB544_543.out
         obtain ⟨hcz14_0, hcz14_1, hcz14_2, hcz14_3, hfz14_0, hfz14_1, hfz14_2, hfz14_3⟩ := bc4 BK543.out
         go_wp2_with (first | ((with_reducible refine gate_dst (N := 26) rfl ?_); refine Kd.R_lit (Kd.int .i64) _ 3 ?hg (N := 26) ?hd (xs := ([] : List Int)) (inner := []) (ok := fun _ => True) (okp := fun _ => True) ?hr ?hp (fun _ hk => hk) trivial (Below.refl _ _) (Nat.le_refl _) (by simp) ?_; (case hd => rfl); (case hg => rfl); (case hr => first | (go_simp; done) | (go_simp; rfl)); (case hp => exact (Reps.none _ _)); intro v549 w15 ho16 hb hg_ hnew_; clear hg_ hnew_; (first | rw [← Ny548.out] at ho16 | (simp only [Int.reduceToNat] at ho16; rw [← Ny548.out] at ho16)); replace HO_4 := Aside0.mk (Kd.S_elder' (by (with_reducible repeat (first | apply Kd.S_alloc | apply Kd.S_drewN | apply Kd.S_drew)); exact HO_4.out) (Kd.R_base ho16) hb); have HO550 := Aside0.mk (Kd.R_lower ho16 (below_size pB)); replace BK543 := Aside0.mk (bB BK543.out hb); replace BK544 := Aside0.mk (bB BK544.out hb); replace HB := Aside0.mk (below_step pB hb); clear hb ho16; obtain ⟨hcz17_0, hcz17_1, hcz17_2, hcz17_3, hfz17_0, hfz17_1, hfz17_2, hfz17_3⟩ := bc4 BK543.out; obtain ⟨i018, hi018, _, hsz18, _⟩ := info_parts info3; obtain ⟨A18, hcut18, hA18, hC18⟩ := print_mid_of (P := Try.prog) (Value.int .i64) 0 22 3 .i64 .i64 Try.underlying22 hi018 hsz18 A0_3 c0_3 l0_3 (ji7) (wrap64 ((wrap64 (x5_1 + 1)) * a0_2)) (oD) (by first | omega | exact oD) (oD) HC0_3.out; have HR551 := Aside0.mk (Kd.C_of_reads (h1 := fun _ => rfl) (hA18 _ (Kd.reads_of_C HR0_3.out))); have HC551 := Aside0.mk hC18; clear hA18 hC18 hi018 hsz18) | ((with_reducible refine gate_builtin (b := .append) (xs := #[.tmp 26, .tmp 38]) rfl ?_); at_builtin; refine Kd.R_append_rows (Kd.int .i64) (w0 := w) w.heap.size rfl (.tmp 26) (.tmp 38) 22 3 (.int .i64 0) 8 rfl Try.underlying22 info3 rfl (by decide) (by omega) v549 y548 ((l0_3.take ((wrap64 ((wrap64 (x5_1 + 1)) * a0_2)) : Int).toNat).drop ((ji7) : Int).toNat) _ _ _ (fun _ => True) (fun _ => False) rfl rfl ?aO ?aR (fun _ _ h => h) (fun _ h => h.elim) ?aF ?aB ?aS ?aL ?_; (case aR => first | (rw [← show ((l0_3.take ((wrap64 ((wrap64 (x5_1 + 1)) * a0_2)) : Int).toNat).drop ((ji7) : Int).toNat).length = ((wrap64 ((wrap64 (x5_1 + 1)) * a0_2)).toNat - (ji7).toNat) from (by rw [List.length_drop, List.length_take]; have h_ : ((wrap64 ((wrap64 (x5_1 + 1)) * a0_2)) : Int) ≤ (l0_3.length : Int) := oD; omega)]; exact pC (Kd.C_below HR551.out HB.out)) | (exact pC (Kd.C_below HR551.out HB.out))); (case aB => exact pB); (case aF => exact (fun _ _ => trivial)); (case aO => exact (pR HO550.out)); (case aS => exact (below_size pB)); (case aL => have := LMc11.out; have hlx_ := (show ((l0_3.take ((wrap64 ((wrap64 (x5_1 + 1)) * a0_2)) : Int).toNat).drop ((ji7) : Int).toNat).length = ((wrap64 ((wrap64 (x5_1 + 1)) * a0_2)).toNat - (ji7).toNat) from (by rw [List.length_drop, List.length_take]; have h_ : ((wrap64 ((wrap64 (x5_1 + 1)) * a0_2)) : Int) ≤ (l0_3.length : Int) := oD; omega)); omega); intro v553 w19 ho hb hg hat; rw [← Ny552.out] at ho; have n0_ := Aside0.mk (Kd.S_after (ok := (fun _ => True)) (by (with_reducible repeat (first | apply Kd.S_alloc | apply Kd.S_drewN | apply Kd.S_drew)); exact HO_4.out) hg hat); have n1_ := Aside0.mk (blk_grown (g := gb543) (o := .cells #[.int .i64 a0_0, .int .i64 a0_1, .int .i64 a0_2, .slice A0_3 l0_3.length c0_3] 32 (0, 0)) (pK BK543.out) hg (Kd.R_ne HO550.out BK543.out (by decide))); have n2_ := Aside0.mk (blk_grown (g := gb544) (o := .cells #[.int .i64 0, .int .i64 0, .int .i64 0, .slice none 0 0] 32 (0, 0)) (pK BK544.out) hg (Kd.R_ne HO550.out BK544.out (by decide))); have n3_ := Aside0.mk (hb); have n4_ := Aside0.mk (ho); clear HO_4; clear BK543; clear BK544; clear HB; clear HO550; have HO_4 := n0_; have BK543 := n1_; have BK544 := n2_; have HB := n3_; have HO554 := n4_; clear n0_ n1_ n2_ n3_ n4_; clear ho hb hg hat; obtain ⟨Ao21, co21, eo21⟩ := Kd.R_slice HO554.out; subst eo21) | ((with_reducible refine gate_builtin (b := .append) (xs := #[.tmp 25, .tmp 40]) rfl ?_); at_builtin; refine Kd.S_append (Kd.slice 3 (Kd.int .i64)) (w0 := w) w.heap.size rfl (.tmp 25) (.tmp 40) 74 22 (.slice none 0 0) 24 rfl Try.underlying74 info22 rfl (by decide) (by omega) u4 x4_1 y552 [.slice Ao21 y552.length co21] (fun _ => True) (fun k_ => some k_ = (.slice Ao21 y552.length co21 : Value).ownBlock) rfl rfl ?aP (fun k_ hk_ => ((Kd.R_mono (ok' := fun k_ => ((fun _ => True)) k_ ∧ some k_ ≠ (u4 : Value).ownBlock) (Kd.R_apart' (HO554.out) (Kd.S_typed HO_4.out) (by decide)) (fun k_ hk => ⟨trivial, hk.2⟩))).1 k_ hk_.symm) ?aF ?aO ?aB ?aS ?aL ?_; (case aP => exact Kd.M_row (Kd.R_mono (Kd.R_tight rfl (Kd.R_mono (ok' := fun k_ => ((fun _ => True)) k_ ∧ some k_ ≠ (u4 : Value).ownBlock) (Kd.R_apart' (HO554.out) (Kd.S_typed HO_4.out) (by decide)) (fun k_ hk => ⟨trivial, hk.2⟩))) (fun _ h_ => h_))); (case aB => exact pB); (case aF => exact (fun _ _ => trivial)); (case aO => exact (by (with_reducible repeat (first | apply Kd.S_alloc | apply Kd.S_drewN | apply Kd.S_drew)); exact Kd.S_mono HO_4.out (fun k_ hk => ⟨trivial, fun e_ => hk.2 e_⟩))); (case aS => exact (below_size pB)); (case aL => have := LMc12.out; omega); intro v556 w20 ho hb hg hat; rw [← Ny555.out] at ho; have n0_ := Aside0.mk (blk_grown (g := gb543) (o := .cells #[.int .i64 a0_0, .int .i64 a0_1, .int .i64 a0_2, .slice A0_3 l0_3.length c0_3] 32 (0, 0)) (pK BK543.out) hg (Kd.S_ne HO_4.out BK543.out (by decide))); have n1_ := Aside0.mk (blk_grown (g := gb544) (o := .cells #[.int .i64 0, .int .i64 0, .int .i64 0, .slice none 0 0] 32 (0, 0)) (pK BK544.out) hg (Kd.S_ne HO_4.out BK544.out (by decide))); have n2_ := Aside0.mk (hb); have n3_ := Aside0.mk (ho); clear BK543; clear BK544; clear HB; clear HO_4; clear HO554; have BK543 := n0_; have BK544 := n1_; have HB := n2_; have HO557 := n3_; clear n0_ n1_ n2_ n3_; clear ho hb hg hat))
         go_roundg k1
         case measure => have := HK1.out; omega
         case rel => exact ⟨(y555), (wrap64 (x5_1 + 1)), p7, H', ⟨by have := HK1.out; omega⟩, ⟨by (with_reducible repeat (first | apply Kd.S_alloc | apply Kd.S_drewN | apply Kd.S_drew)); exact HO557.out⟩, ⟨pK BK543.out⟩, ⟨pK BK544.out⟩, ⟨pB⟩⟩
        ·rw [if_neg c12] at H
         exact absurd H (by simp)
       ·rw [if_neg c11] at H
        exact absurd H (by simp)
      ·rw [if_neg c10] at H
       exact absurd H (by simp)
     ·rw [if_neg c9] at H
      exact absurd H (by simp)
    ·rw [if_neg c8] at H
     exact absurd H (by simp)
   ·rw [if_neg c6] at H
    have c6b0 : decide (x5_1 < a0_1) = false := decide_eq_false c6
    clear c6
    obtain ⟨y558, hy558⟩ : ∃ y_ : List Int, y_ = (([] : List Int)) := ⟨_, rfl⟩
    replace H : (impl_reduce.l1 k1 x4_1 y558 0 a0_0 a0_1 a0_2 l0_3) = some (r1, r2, r3, r4, r5) := by first | (rw [hy558]; with_reducible exact H) | (have H2_ := (Option.bind_some _ _).symm.trans H; rw [hy558]; with_reducible exact H2_) | (have H2_ := (Option.bind_some _ _).symm.trans H; with_reducible exact H2_) | with_reducible exact H | (rw [hy558]; exact H) | exact H
    have Ny558 := Aside0.mk hy558
    clear hy558
    have H' := Aside0.mk H
    clear H
    have hnb22 := NB543_544.out
    have hnc22 := NB544_543.out
    obtain ⟨hcz23_0, hcz23_1, hcz23_2, hcz23_3, hfz23_0, hfz23_1, hfz23_2, hfz23_3⟩ := bc4 BK543.out
    go_wp2_with (first | ((with_reducible refine gate_dst (N := 42) rfl ?_); refine Kd.R_lit (Kd.int .i64) _ 3 ?hg (N := 42) ?hd (xs := ([] : List Int)) (inner := []) (ok := fun _ => True) (okp := fun _ => True) ?hr ?hp (fun _ hk => hk) trivial (Below.refl _ _) (Nat.le_refl _) (by simp) ?_; (case hd => rfl); (case hg => rfl); (case hr => first | (go_simp; done) | (go_simp; rfl)); (case hp => exact (Reps.none _ _)); intro v559 w24 ho25 hb hg_ hnew_; clear hg_ hnew_; (first | rw [← Ny558.out] at ho25 | (simp only [Int.reduceToNat] at ho25; rw [← Ny558.out] at ho25)); replace HO_4 := Aside0.mk (Kd.S_elder' (by (with_reducible repeat (first | apply Kd.S_alloc | apply Kd.S_drewN | apply Kd.S_drew)); exact HO_4.out) (Kd.R_base ho25) hb); have HO560 := Aside0.mk (Kd.R_lower ho25 (below_size pB)); replace BK543 := Aside0.mk (bB BK543.out hb); replace BK544 := Aside0.mk (bB BK544.out hb); replace HB := Aside0.mk (below_step pB hb); clear hb ho25))
    go_loopg [6, 7] k1 (fun kq v6 v7 w' => ∃ (x4_2 : List (List Int)) (x6_2 : List Int) (x7_2 : Int), v7 = .int .i64 x7_2 ∧ Aside0 (impl_reduce.l1 kq x4_2 x6_2 x7_2 a0_0 a0_1 a0_2 l0_3 = some (r1, r2, r3, r4, r5)) ∧ Aside0 (kq ≤ k1) ∧ Aside0 (Kd.S (Kd.slice 3 (Kd.int .i64)) 22 w' w.heap.size (fun k_ => some k_ ≠ (v6 : Value).ownBlock) u4 x4_2) ∧ Aside0 (Kd.R (Kd.int .i64) 3 w' w.heap.size (fun _ => True) v6 x6_2) ∧ Aside0 (w'.heap[gb543]? = some (.cells #[.int .i64 a0_0, .int .i64 a0_1, .int .i64 a0_2, (.slice A0_3 l0_3.length c0_3)] 32 (0, 0))) ∧ Aside0 (w'.heap[gb544]? = some (.cells #[.int .i64 0, .int .i64 0, .int .i64 0, (.slice none 0 0)] 32 (0, 0))) ∧ Aside0 (Below w.heap.size w w'))
    case atStart => exact ⟨(x4_1), (y558), (0), p7, H', ⟨Nat.le_refl _⟩, ⟨by (with_reducible repeat (first | apply Kd.S_alloc | apply Kd.S_drewN | apply Kd.S_drew)); exact Kd.S_mono HO_4.out (fun _ hk => hk.2)⟩, ⟨pR HO560.out⟩, ⟨pK BK543.out⟩, ⟨pK BK544.out⟩, ⟨pB⟩⟩
    case round =>
     clear H'
     try clear c6
     try clear c6b0
     try clear hcz23_0
     try clear hcz23_1
     try clear hcz23_2
     try clear hcz23_3
     try clear hfz23_0
     try clear hfz23_1
     try clear hfz23_2
     try clear hfz23_3
     obtain ⟨x4_2, x6_2, x7_2, rfl, HA, HK2, HO_4, HO_6, BK543, BK544, HB⟩ := hrel
     cases gk with
     | zero => exact absurd HA.out (by simp [impl_reduce.l1])
     | succ k2 =>
      have H := HA.out
      clear HA
      simp only [impl_reduce.l1] at H
      by_cases c26 : x7_2 < a0_2
      ·rw [if_pos c26] at H
       have c26b0 : decide (x7_2 < a0_2) = true := decide_eq_true c26
       clear c26
       have HC27 := Aside0.mk H
       clear H
       have hnb28 := NB543_544.out
       have hnc28 := NB544_543.out
       obtain ⟨hcz29_0, hcz29_1, hcz29_2, hcz29_3, hfz29_0, hfz29_1, hfz29_2, hfz29_3⟩ := bc4 BK543.out
       obtain ⟨Ao30, co30, eo30⟩ := Kd.R_slice HO_6.out
       subst eo30
       go_upto_block 4 with (fail)
       go_cut [9] (fun v9 wc => ∃ (kq : Nat) (x9_26 : Int), v9 = .int .i64 x9_26 ∧ Aside0 (impl_reduce.j3 kq x4_2 x6_2 x7_2 (x6_2.length : Int) x9_26 a0_0 a0_1 a0_2 l0_3 = some (r1, r2, r3, r4, r5)) ∧ Aside0 (kq ≤ k2) ∧ Aside0 (Kd.S (Kd.slice 3 (Kd.int .i64)) 22 wc w.heap.size (fun k_ => some k_ ≠ ((.slice Ao30 x6_2.length co30) : Value).ownBlock) u4 x4_2) ∧ Aside0 (Kd.R (Kd.int .i64) 3 wc w.heap.size (fun _ => True) (.slice Ao30 x6_2.length co30) x6_2) ∧ Aside0 (wc.heap[gb543]? = some (.cells #[.int .i64 a0_0, .int .i64 a0_1, .int .i64 a0_2, (.slice A0_3 l0_3.length c0_3)] 32 (0, 0))) ∧ Aside0 (wc.heap[gb544]? = some (.cells #[.int .i64 0, .int .i64 0, .int .i64 0, (.slice none 0 0)] 32 (0, 0))) ∧ Aside0 (Below w.heap.size w wc))
       case first =>
        have H := HC27.out
        clear HC27
        have H' := Aside0.mk H
        clear H
        go_wp2
        go_loopg [9] k2 (fun kq v9 w' => ∃ (x9_3 : Int), v9 = .int .i64 x9_3 ∧ Aside0 (impl_reduce.l2 kq x4_2 x6_2 x7_2 (x6_2.length : Int) x9_3 a0_0 a0_1 a0_2 l0_3 = some (r1, r2, r3, r4, r5)) ∧ Aside0 (kq ≤ k2) ∧ Aside0 (Kd.S (Kd.slice 3 (Kd.int .i64)) 22 w' w.heap.size (fun k_ => some k_ ≠ ((.slice Ao30 x6_2.length co30) : Value).ownBlock) u4 x4_2) ∧ Aside0 (Kd.R (Kd.int .i64) 3 w' w.heap.size (fun _ => True) (.slice Ao30 x6_2.length co30) x6_2) ∧ Aside0 (w'.heap[gb543]? = some (.cells #[.int .i64 a0_0, .int .i64 a0_1, .int .i64 a0_2, (.slice A0_3 l0_3.length c0_3)] 32 (0, 0))) ∧ Aside0 (w'.heap[gb544]? = some (.cells #[.int .i64 0, .int .i64 0, .int .i64 0, (.slice none 0 0)] 32 (0, 0))) ∧ Aside0 (Below w.heap.size w w'))
        case atStart => exact ⟨((x6_2.length : Int)), p7, H', ⟨Nat.le_refl _⟩, ⟨by (with_reducible repeat (first | apply Kd.S_alloc | apply Kd.S_drewN | apply Kd.S_drew)); exact HO_4.out⟩, ⟨pR HO_6.out⟩, ⟨pK BK543.out⟩, ⟨pK BK544.out⟩, ⟨pB⟩⟩
        case round =>
         clear H'
         try clear c6
         try clear c6b0
         try clear c26
         try clear c26b0
         try clear hcz23_0
         try clear hcz23_1
         try clear hcz23_2
         try clear hcz23_3
         try clear hcz29_0
         try clear hcz29_1
         try clear hcz29_2
         try clear hcz29_3
         try clear hfz23_0
         try clear hfz23_1
         try clear hfz23_2
         try clear hfz23_3
         try clear hfz29_0
         try clear hfz29_1
         try clear hfz29_2
         try clear hfz29_3
         obtain ⟨x9_3, rfl, HA, HK3, HO_4, HO_6, BK543, BK544, HB⟩ := hrel
         cases gk with
         | zero => exact absurd HA.out (by simp [impl_reduce.l2])
         | succ k3 =>
          have H := HA.out
          clear HA
          simp only [impl_reduce.l2] at H
          by_cases c31 : x9_3 < (x4_2.length : Int)
          ·rw [if_pos c31] at H
           have c31b0 : decide (x9_3 < (x4_2.length : Int)) = true := decide_eq_true c31
           clear c31
           (first | rw [c31b0] | (simp only [i64_w, i32_w]; rw [c31b0]) | skip)
           by_cases c32 : 0 ≤ x9_3
           ·rw [if_pos c32] at H
            have c32b0 : decide (0 ≤ x9_3) = true := decide_eq_true c32
            clear c32
            by_cases c33 : 0 ≤ x7_2
            ·rw [if_pos c33] at H
             have c33b0 : decide (0 ≤ x7_2) = true := decide_eq_true c33
             clear c33
             by_cases c34 : x7_2 < ((rd_L1 x4_2 x9_3).length : Int)
             ·rw [if_pos c34] at H
              have c34b0 : decide (x7_2 < ((rd_L1 x4_2 x9_3).length : Int)) = true := decide_eq_true c34
              clear c34
              by_cases c35 : (rd (rd_L1 x4_2 x9_3) x7_2) = 0
              ·rw [if_pos c35] at H
               have c35b0 : ((rd (rd_L1 x4_2 x9_3) x7_2) == 0) = true := beq_iff_eq.mpr c35
               have c35b1 : ((rd (rd_L1 x4_2 x9_3) x7_2) != 0) = false := bne_eq_false_iff_eq.mpr c35
               clear c35
               have H' := Aside0.mk H
               clear H
               obtain ⟨Ao36, co36, eo36⟩ := Kd.S_slice HO_4.out
               subst eo36
               have p561 : 0 ≤ (x9_3 : Int) := oD
               have q561 : x9_3 < (x4_2.length : Int) := oD
               obtain ⟨ad561, A561_0, c561_0, e561, hx561_0, hl561_0, hi561_0⟩ := at_L1 (Kd.S_reads' HO_4.out).2.2 x9_3 p561 q561
               cases e561
               obtain ⟨ce561, hce561, hMe561, hcc561⟩ := Kd.S_get HO_4.out [] x9_3 p561 (by first | exact q561 | exact oD | (have e_ := (Kd.S_reads' HO_4.out).1; omega))
               obtain ⟨ve561_0, rfl, ge561_0⟩ := hMe561
               have hv561_0 := hcc561 0 _ rfl
               rw [Nat.add_zero, show ((Kd.slice 3 (Kd.int .i64))).sz = 1 from rfl, Nat.mul_one] at hv561_0
               replace hv561_0 := Option.some.inj (hv561_0.symm.trans hx561_0)
               rw [hv561_0] at ge561_0
               have HL561_0 := Aside0.mk (show Kd.R (Kd.int .i64) 3 _ _ _ _ (rd_L1 x4_2 x9_3) from ge561_0)
               clear hv561_0 ge561_0
               have HX561_0 := Aside0.mk hx561_0
               clear hcc561 hce561
               have HR561_0 := Aside0.mk hi561_0
               have HC561_0 := Aside0.mk hl561_0
               clear hi561_0 hl561_0
               replace p561 := eq_true p561
               replace q561 := eq_true q561
               have p562 : 0 ≤ (x7_2 : Int) := oD
               have q562 : x7_2 < ((rd_L1 x4_2 x9_3).length : Int) := oD
               obtain ⟨ad562, e562, hx562_0⟩ := Kd.at_int (by repeat (first | (with_reducible exact HR561_0.out) | (with_reducible refine Kd.C_alloc ?_ _) | (with_reducible refine Kd.C_drewN ?_ _) | (with_reducible refine Kd.C_drew ?_) | exact HR561_0.out)) x7_2 p562 q562
               cases e562
               replace p562 := eq_true p562
               replace q562 := eq_true q562
               go_wp2
               go_roundg k3
               case measure => have := HK1.out; have := HK2.out; have := HK3.out; omega
               case rel => exact ⟨(wrap64 (x9_3 + 1)), p7, H', ⟨by have := HK1.out; have := HK2.out; have := HK3.out; omega⟩, ⟨by (with_reducible repeat (first | apply Kd.S_alloc | apply Kd.S_drewN | apply Kd.S_drew)); exact HO_4.out⟩, ⟨pR HO_6.out⟩, ⟨pK BK543.out⟩, ⟨pK BK544.out⟩, ⟨pB⟩⟩
              ·rw [if_neg c35] at H
               have c35b0 : ((rd (rd_L1 x4_2 x9_3) x7_2) == 0) = false := beq_eq_false_iff_ne.mpr c35
               have c35b1 : ((rd (rd_L1 x4_2 x9_3) x7_2) != 0) = true := bne_iff_ne.mpr c35
               have H' := Aside0.mk H
               clear H
               obtain ⟨Ao37, co37, eo37⟩ := Kd.S_slice HO_4.out
               subst eo37
               have p561 : 0 ≤ (x9_3 : Int) := oD
               have q561 : x9_3 < (x4_2.length : Int) := oD
               obtain ⟨ad561, A561_0, c561_0, e561, hx561_0, hl561_0, hi561_0⟩ := at_L1 (Kd.S_reads' HO_4.out).2.2 x9_3 p561 q561
               cases e561
               obtain ⟨ce561, hce561, hMe561, hcc561⟩ := Kd.S_get HO_4.out [] x9_3 p561 (by first | exact q561 | exact oD | (have e_ := (Kd.S_reads' HO_4.out).1; omega))
               obtain ⟨ve561_0, rfl, ge561_0⟩ := hMe561
               have hv561_0 := hcc561 0 _ rfl
               rw [Nat.add_zero, show ((Kd.slice 3 (Kd.int .i64))).sz = 1 from rfl, Nat.mul_one] at hv561_0
               replace hv561_0 := Option.some.inj (hv561_0.symm.trans hx561_0)
               rw [hv561_0] at ge561_0
               have HL561_0 := Aside0.mk (show Kd.R (Kd.int .i64) 3 _ _ _ _ (rd_L1 x4_2 x9_3) from ge561_0)
               clear hv561_0 ge561_0
               have HX561_0 := Aside0.mk hx561_0
               clear hcc561 hce561
               have HR561_0 := Aside0.mk hi561_0
               have HC561_0 := Aside0.mk hl561_0
               clear hi561_0 hl561_0
               replace p561 := eq_true p561
               replace q561 := eq_true q561
               have p562 : 0 ≤ (x7_2 : Int) := oD
               have q562 : x7_2 < ((rd_L1 x4_2 x9_3).length : Int) := oD
               obtain ⟨ad562, e562, hx562_0⟩ := Kd.at_int (by repeat (first | (with_reducible exact HR561_0.out) | (with_reducible refine Kd.C_alloc ?_ _) | (with_reducible refine Kd.C_drewN ?_ _) | (with_reducible refine Kd.C_drew ?_) | exact HR561_0.out)) x7_2 p562 q562
               cases e562
               replace p562 := eq_true p562
               replace q562 := eq_true q562
               go_wp2
               go_meet
               case rel => exact ⟨_, (x9_3), p7, H', ⟨by have := HK1.out; have := HK2.out; have := HK3.out; first | omega | exact Nat.le_refl _⟩, ⟨by (with_reducible repeat (first | apply Kd.S_alloc | apply Kd.S_drewN | apply Kd.S_drew)); exact HO_4.out⟩, ⟨pR HO_6.out⟩, ⟨pK BK543.out⟩, ⟨pK BK544.out⟩, ⟨pB⟩⟩
             ·rw [if_neg c34] at H
              exact absurd H (by simp)
            ·rw [if_neg c33] at H
             exact absurd H (by simp)
           ·rw [if_neg c32] at H
            exact absurd H (by simp)
          ·rw [if_neg c31] at H
           have c31b0 : decide (x9_3 < (x4_2.length : Int)) = false := decide_eq_false c31
           clear c31
           (first | rw [c31b0] | (simp only [i64_w, i32_w]; rw [c31b0]) | skip)
           have H' := Aside0.mk H
           clear H
           obtain ⟨Ao38, co38, eo38⟩ := Kd.S_slice HO_4.out
           subst eo38
           go_wp2
           go_meet
           case rel => exact ⟨_, (x9_3), p7, H', ⟨by have := HK1.out; have := HK2.out; have := HK3.out; first | omega | exact Nat.le_refl _⟩, ⟨by (with_reducible repeat (first | apply Kd.S_alloc | apply Kd.S_drewN | apply Kd.S_drew)); exact HO_4.out⟩, ⟨pR HO_6.out⟩, ⟨pK BK543.out⟩, ⟨pK BK544.out⟩, ⟨pB⟩⟩
       case rest =>
        clear HC27
        try clear c6
        try clear c6b0
        try clear c26
        try clear c26b0
        try clear hcz23_0
        try clear hcz23_1
        try clear hcz23_2
        try clear hcz23_3
        try clear hcz29_0
        try clear hcz29_1
        try clear hcz29_2
        try clear hcz29_3
        try clear hfz23_0
        try clear hfz23_1
        try clear hfz23_2
        try clear hfz23_3
        try clear hfz29_0
        try clear hfz29_1
        try clear hfz29_2
        try clear hfz29_3
        obtain ⟨kq, x9_26, rfl, HA, HJ26, HO_4, HO_6, BK543, BK544, HB⟩ := hcut
        cases kq with
        | zero => exact absurd HA.out (by simp [impl_reduce.j3])
        | succ kj26 =>
         have H := HA.out
         clear HA
         simp only [impl_reduce.j3] at H
         by_cases c39 : x9_26 ≥ (x4_2.length : Int)
         ·rw [if_pos c39] at H
          have c39b0 : decide ((x4_2.length : Int) ≤ x9_26) = true := decide_eq_true c39
          clear c39
          have H' := Aside0.mk H
          clear H
          obtain ⟨Ao40, co40, eo40⟩ := Kd.S_slice HO_4.out
          subst eo40
          go_wp2
          go_roundg kj26
          case measure => have := HK1.out; have := HK2.out; have := HJ26.out; omega
          case rel => exact ⟨(x4_2), (x6_2), (wrap64 (x7_2 + 1)), p7, H', ⟨by have := HK1.out; have := HK2.out; have := HJ26.out; omega⟩, ⟨by (with_reducible repeat (first | apply Kd.S_alloc | apply Kd.S_drewN | apply Kd.S_drew)); exact HO_4.out⟩, ⟨pR HO_6.out⟩, ⟨pK BK543.out⟩, ⟨pK BK544.out⟩, ⟨pB⟩⟩
         ·rw [if_neg c39] at H
          have c39b0 : decide ((x4_2.length : Int) ≤ x9_26) = false := decide_eq_false c39
          clear c39
          replace H := bS H
          obtain ⟨t563, A41, H⟩ := H
          by_cases c42 : 0 ≤ (x6_2.length : Int)
          ·rw [if_pos c42] at H
           have c42b0 : decide (0 ≤ (x6_2.length : Int)) = true := decide_eq_true c42
           have c42b1 : decide (0 ≤ x6_2.length) = true := decide_eq_true (by omega)
           clear c42
           by_cases c43 : (x6_2.length : Int) < (x4_2.length : Int)
           ·rw [if_pos c43] at H
            have c43b0 : decide ((x6_2.length : Int) < (x4_2.length : Int)) = true := decide_eq_true c43
            have c43b1 : decide (x6_2.length < x4_2.length) = true := decide_eq_true (Int.ofNat_lt.mp c43)
            clear c43
            by_cases c44 : 0 ≤ x7_2
            ·rw [if_pos c44] at H
             have c44b0 : decide (0 ≤ x7_2) = true := decide_eq_true c44
             clear c44
             by_cases c45 : x7_2 < ((rd_L1 t563 (x6_2.length : Int)).length : Int)
             ·rw [if_pos c45] at H
              have c45b0 : decide (x7_2 < ((rd_L1 t563 (x6_2.length : Int)).length : Int)) = true := decide_eq_true c45
              clear c45
              replace H := bS H
              obtain ⟨t566, A46, H⟩ := H
              have H' := Aside0.mk H
              clear H
              obtain ⟨Ao47, co47, eo47⟩ := Kd.S_slice HO_4.out
              subst eo47
              obtain ⟨hb1, hb2, hb3, hb4, htlS, hln⟩ := swapRows.some_ A41.out
              have Hln := Aside0.mk hln
              have HtlS := Aside0.mk htlS
              clear hln htlS
              obtain ⟨goS, coS, eoS, gbS, glS, clS, hcS⟩ := Kd.S_form HO_4.out (by omega)
              cases eoS
              obtain ⟨ciS, cjS, hciS, hcjS, hfiS, hfjS, hKiS, hKjS, hSS, hgS⟩ := S_swap rfl HO_4.out ([] : List Int) x6_2.length x9_26.toNat (by omega) (by omega)
              obtain ⟨AiS, kiS, eiS, _, _⟩ := hKiS
              obtain ⟨AjS, kjS, ejS, _, _⟩ := hKjS
              generalize (x4_2.getD x6_2.length []).length = nIS at eiS
              generalize (x4_2.getD x9_26.toNat []).length = nJS at ejS
              obtain rfl := List.singleton_inj.1 eiS
              obtain rfl := List.singleton_inj.1 ejS
              clear eiS ejS
              obtain ⟨viS, hviS⟩ := cell?_setCell_some (w := wc) (p := ⟨goS, x6_2.length, none⟩) (x := .slice AjS nJS kjS) (q := ⟨goS, x9_26.toNat, none⟩) (v := .slice AjS nJS kjS) hcjS
              obtain ⟨vjS, hvjS⟩ := cell?_setCell_some (w := wc) (p := ⟨goS, x9_26.toNat, none⟩) (x := .slice AiS nIS kiS) (q := ⟨goS, x6_2.length, none⟩) (v := .slice AiS nIS kiS) hciS
              have HSS := Aside0.mk hSS
              have HGS := Aside0.mk hgS
              have HCS := Aside0.mk hcS
              have GBS := Aside0.mk gbS
              clear hSS hgS hcS gbS
              have hb2b : decide ((x6_2.length : Int) < (x4_2.length : Int)) = true := decide_eq_true hb2
              have hb2c : decide (x6_2.length < x4_2.length) = true := decide_eq_true (by omega)
              have hb3b : decide (0 ≤ x9_26) = true := decide_eq_true hb3
              have hb4b : decide (x9_26 < (x4_2.length : Int)) = true := decide_eq_true hb4
              go_wp2
              go_region
              have n0_ := Aside0.mk (Kd.S_drew HSS.out)
              rw [show swapList x4_2 x6_2.length x9_26.toNat [] = t563 from by rw [HtlS.out]; simp] at n0_
              have n1_ := Aside0.mk (Kd.R_drew (Kd.R_mono (Kd.R_grown (Kd.R_types HO_6.out HCS.out (by decide)) HGS.out (fun k hk e => hk.2 (by injection e))) (fun _ h => h.1)))
              have n2_ := Aside0.mk (blk_drew (blk_grown BK543.out HGS.out (fun e => by injection e with e; exact blk_ne BK543.out HCS.out (by decide) e)))
              have n3_ := Aside0.mk (blk_drew (blk_grown BK544.out HGS.out (fun e => by injection e with e; exact blk_ne BK544.out HCS.out (by decide) e)))
              have n4_ := Aside0.mk (below_drew1 (pw_below_grown HB.out _ HB.out.size HGS.out (fun k e => by injection e with e; rw [← e]; exact GBS.out)))
              clear HO_4 HO_6 BK543 BK544 HB hciS hcjS hfiS hfjS hviS hvjS HSS HGS HCS hb2b hb2c hb3b hb4b
              have HO_4 := n0_
              have HO_6 := n1_
              have BK543 := n2_
              have BK544 := n3_
              have HB := n4_
              clear n0_ n1_ n2_ n3_ n4_
              generalize ((wc.setCell ⟨goS, x6_2.length, none⟩ (.slice AjS nJS kjS)).setCell ⟨goS, x9_26.toNat, none⟩ (.slice AiS nIS kiS)).drew = w48 at HO_4 HO_6 BK543 BK544 HB ⊢
              generalize hAo : (some (⟨goS, 0, none⟩ : Addr)) = Ao47 at HO_4 ⊢
              have HAo := Aside0.mk hAo
              clear hAo
              go_wp2
              replace HO_4 := Aside0.mk (Kd.S_drew HO_4.out)
              replace HO_6 := Aside0.mk (Kd.R_drew HO_6.out)
              replace BK543 := Aside0.mk (blk_drew BK543.out)
              replace BK544 := Aside0.mk (blk_drew BK544.out)
              replace HB := Aside0.mk (below_drew1 HB.out)
              have p564 : 0 ≤ ((x6_2.length : Int) : Int) := oD
              have q564 : (x6_2.length : Int) < (t563.length : Int) := (by have h_ : ((x6_2.length : Int) : Int) < ((x4_2.length : Int) : Int) := oD; have e_ := (Kd.S_reads' HO_4.out).1; omega)
              have ql564 : (((x6_2.length : Int) : Int) < ((x4_2.length : Int) : Int)) = True := eq_true (oD)
              obtain ⟨ad564, A564_0, c564_0, e564, hx564_0, hl564_0, hi564_0⟩ := at_L1 (Kd.S_reads' HO_4.out).2.2 (x6_2.length : Int) p564 q564
              cases e564
              obtain ⟨ce564, hce564, hMe564, hcc564⟩ := Kd.S_get HO_4.out [] (x6_2.length : Int) p564 (by first | exact q564 | exact oD | (have e_ := (Kd.S_reads' HO_4.out).1; omega))
              obtain ⟨ve564_0, rfl, ge564_0⟩ := hMe564
              have hv564_0 := hcc564 0 _ rfl
              rw [Nat.add_zero, show ((Kd.slice 3 (Kd.int .i64))).sz = 1 from rfl, Nat.mul_one] at hv564_0
              replace hv564_0 := Option.some.inj (hv564_0.symm.trans hx564_0)
              rw [hv564_0] at ge564_0
              have HL564_0 := Aside0.mk (show Kd.R (Kd.int .i64) 3 _ _ _ _ (rd_L1 t563 (x6_2.length : Int)) from ge564_0)
              clear hv564_0 ge564_0
              have HX564_0 := Aside0.mk hx564_0
              clear hcc564 hce564
              have HR564_0 := Aside0.mk hi564_0
              have HC564_0 := Aside0.mk hl564_0
              clear hi564_0 hl564_0
              (try simp only [Go.IntWalk.toNatUp] at hx564_0)
              replace p564 := eq_true p564
              replace q564 := eq_true q564
              have p565 : 0 ≤ (x7_2 : Int) := oD
              have q565 : x7_2 < ((rd_L1 t563 (x6_2.length : Int)).length : Int) := oD
              obtain ⟨ad565, e565, hx565_0⟩ := Kd.at_int (by repeat (first | (with_reducible exact HR564_0.out) | (with_reducible refine Kd.C_alloc ?_ _) | (with_reducible refine Kd.C_drewN ?_ _) | (with_reducible refine Kd.C_drew ?_) | exact HR564_0.out)) x7_2 p565 q565
              cases e565
              replace p565 := eq_true p565
              replace q565 := eq_true q565
              refine start_ (n := 11) (S := fun w' => w'.cell? ⟨gb543, 0, none⟩ = some (.int .i64 a0_0) ∧ w'.cell? ⟨gb543, 1, none⟩ = some (.int .i64 a0_1) ∧ w'.cell? ⟨gb543, 2, none⟩ = some (.int .i64 a0_2) ∧ w'.cell? ⟨gb543, 3, none⟩ = some (.slice A0_3 l0_3.length c0_3) ∧ w'.cell? (ad564.add x6_2.length) = some (.slice (some ad565) (rd_L1 t563 (x6_2.length : Int)).length c564_0) ∧ w'.cell? (ad565.add (x7_2).toNat) = some (.int .i64 (rd (rd_L1 t563 (x6_2.length : Int)) x7_2))) (ds := []) #[false, false, false, false, false, false, false, false, false, false, false] kr rfl rfl ⟨(blk_cell BK543.out 0).trans rfl, (blk_cell BK543.out 1).trans rfl, (blk_cell BK543.out 2).trans rfl, (blk_cell BK543.out 3).trans rfl, hx564_0, hx565_0⟩ (fun hHeld => ?_); refine with_tabW impl_reduce.tab16 impl_reduce.bits16 (fun HT_ HW_ => ?_)
              generalize w48.drew = w49 at HO_4 HO_6 BK543 BK544 HB HL564_0 HR564_0 HX564_0 hx564_0 hx565_0 hHeld ⊢
              refine pA 0 86 (any_of HT_.out kr) ?_
              refine pA 2 88 (any_of HT_.out kr) ?_
              refine pA 3 89 (any_of HT_.out kr) ?_
              refine pA 4 90 (any_of HT_.out kr) ?_
              refine pA 6 92 (any_of HT_.out kr) ?_
              refine tA6 1 87 (take_ofW HT_.out HW_.out kr) hHeld ?_
              refine tA6 5 91 (take_ofW HT_.out HW_.out kr) hHeld ?_
              refine pA 7 93 (any_of HT_.out kr) ?_
              refine tA6 8 94 (take_ofW HT_.out HW_.out kr) hHeld ?_
              refine one_ (i := 9) (N := some 95) #[true, true, true, true, true, true, true, true, true, true, false] rfl rfl (one_of HT_.out kr) (by decide) (fun K hK => ?_)
              refine goes_ Try.func84 kr rfl #[.int .i64 a0_0, .int .i64 (rd (rd_L1 t563 (x6_2.length : Int)) x7_2)] (by rfl) rfl rfl p5 ?_
              with_reducible refine (impl_InverseIn.calls kj26 a0_0 (rd (rd_L1 t563 (x6_2.length : Int)) x7_2) t566 _ A46.out).mono ?_
              rintro e w' ⟨rfl, ⟨nd, rfl⟩⟩
              refine ⟨_, rfl, ?_⟩
              refine hK.out _ _ ⟨(blk_cell BK543.out 0).trans rfl, (blk_cell BK543.out 1).trans rfl, (blk_cell BK543.out 2).trans rfl, (blk_cell BK543.out 3).trans rfl, hHeld.2.2.2.2.1, hHeld.2.2.2.2.2⟩ (fun hHeld => ?_)
              clear hK K
              refine norm_ (a' := ?_) ?_ ?_
              rotate_left
              ·show Act.put _ (some 95) _ = _
               simp only [Act.put, List.setIfInBounds_toArray, List.set_cons_zero, List.set_cons_succ, i64_w, i32_w]
               rfl
              refine pA 10 10 (any_of HT_.out kr) ?_
              refine done_ (done_of HT_.out kr) ?_
              have p567 : 0 ≤ ((x6_2.length : Int) : Int) := oD
              have q567 : (x6_2.length : Int) < (t563.length : Int) := (by have h_ : ((x6_2.length : Int) : Int) < ((x4_2.length : Int) : Int) := oD; have e_ := (Kd.S_reads' HO_4.out).1; omega)
              have ql567 : (((x6_2.length : Int) : Int) < ((x4_2.length : Int) : Int)) = True := eq_true (oD)
              obtain ⟨ad567, A567_0, c567_0, e567, hx567_0, hl567_0, hi567_0⟩ := at_L1 (Kd.S_reads' HO_4.out).2.2 (x6_2.length : Int) p567 q567
              obtain rfl : ad564 = ad567 := (by injection e567)
              obtain ⟨ce567, hce567, hMe567, hcc567⟩ := Kd.S_get HO_4.out [] (x6_2.length : Int) p567 (by first | exact q567 | exact oD | (have e_ := (Kd.S_reads' HO_4.out).1; omega))
              obtain ⟨ve567_0, rfl, ge567_0⟩ := hMe567
              have hv567_0 := hcc567 0 _ rfl
              rw [Nat.add_zero, show ((Kd.slice 3 (Kd.int .i64))).sz = 1 from rfl, Nat.mul_one] at hv567_0
              replace hv567_0 := Option.some.inj (hv567_0.symm.trans hx567_0)
              rw [hv567_0] at ge567_0
              have HL567_0 := Aside0.mk (show Kd.R (Kd.int .i64) 3 _ _ _ _ (rd_L1 t563 (x6_2.length : Int)) from ge567_0)
              clear hv567_0 ge567_0
              have HX567_0 := Aside0.mk hx567_0
              clear hcc567 hce567
              have HR567_0 := Aside0.mk hi567_0
              have HC567_0 := Aside0.mk hl567_0
              clear hi567_0 hl567_0
              (try simp only [Go.IntWalk.toNatUp] at hx567_0)
              replace p567 := eq_true p567
              replace q567 := eq_true q567
              have ea_ := Option.some.inj (hx564_0.symm.trans hx567_0)
              injection ea_ with ea_ en_ ec_
              subst ea_
              subst ec_
              clear en_
              try go_wp2
              go_loopg [101] kj26 (fun kq v101 w' => ∃ (x4_4 : List (List Int)) (x6_4 : List Int) (x101_4 : Int), v101 = .int .i64 x101_4 ∧ Aside0 (impl_reduce.l3 kq x4_4 x6_4 x7_2 (x6_2.length : Int) t566 ((rd_L1 t563 (x6_2.length : Int)).length : Int) x101_4 a0_0 a0_1 a0_2 l0_3 = some (r1, r2, r3, r4, r5)) ∧ Aside0 (kq ≤ kj26) ∧ Aside0 (Kd.S (Kd.slice 3 (Kd.int .i64)) 22 w' w.heap.size (fun k_ => some k_ ≠ ((.slice Ao30 x6_2.length co30) : Value).ownBlock) (.slice (some ad564) x4_2.length co47) x4_4) ∧ Aside0 (Kd.R (Kd.int .i64) 3 w' w.heap.size (fun _ => True) (.slice Ao30 x6_2.length co30) x6_4) ∧ Aside0 (w'.heap[gb543]? = some (.cells #[.int .i64 a0_0, .int .i64 a0_1, .int .i64 a0_2, (.slice A0_3 l0_3.length c0_3)] 32 (0, 0))) ∧ Aside0 (w'.heap[gb544]? = some (.cells #[.int .i64 0, .int .i64 0, .int .i64 0, (.slice none 0 0)] 32 (0, 0))) ∧ Aside0 (Below w.heap.size w w'))
              case atStart => exact ⟨(t563), (x6_2), (0), p7, H', ⟨Nat.le_refl _⟩, ⟨by (with_reducible repeat (first | apply Kd.S_alloc | apply Kd.S_drewN | apply Kd.S_drew)); exact HO_4.out⟩, ⟨pR HO_6.out⟩, ⟨pK BK543.out⟩, ⟨pK BK544.out⟩, ⟨pB⟩⟩
              case round =>
               clear H'
               try clear c6
               try clear c6b0
               try clear c26
               try clear c26b0
               try clear c39
               try clear c39b0
               try clear c42
               try clear c42b0
               try clear c42b1
               try clear c43
               try clear c43b0
               try clear c43b1
               try clear c44
               try clear c44b0
               try clear c45
               try clear c45b0
               try clear hcz23_0
               try clear hcz23_1
               try clear hcz23_2
               try clear hcz23_3
               try clear hcz29_0
               try clear hcz29_1
               try clear hcz29_2
               try clear hcz29_3
               try clear hfz23_0
               try clear hfz23_1
               try clear hfz23_2
               try clear hfz23_3
               try clear hfz29_0
               try clear hfz29_1
               try clear hfz29_2
               try clear hfz29_3
               try clear hx564_0
               try clear hx565_0
               try clear hx567_0
               try clear p564
               try clear p565
               try clear p567
               try clear q564
               try clear q565
               try clear q567
               obtain ⟨x4_4, x6_4, x101_4, rfl, HA, HK4, HO_4, HO_6, BK543, BK544, HB⟩ := hrel
               have hl4_4 := (Kd.S_reads' HO_4.out).1
               rw [hl4_4] at HO_4
               (try simp only [hl4_4])
               (try simp only [hl4_4] at BK543)
               (try simp only [hl4_4] at BK544)
               (try simp only [hl4_4] at HO_6)
               have hl6_4 := (Kd.R_reads' HO_6.out).1
               rw [hl6_4] at HO_6
               (try simp only [hl6_4])
               (try simp only [hl6_4] at BK543)
               (try simp only [hl6_4] at BK544)
               (try simp only [hl6_4] at HO_4)
               cases gk with
               | zero => exact absurd HA.out (by simp [impl_reduce.l3])
               | succ k4 =>
                have H := HA.out
                clear HA
                simp only [impl_reduce.l3] at H
                by_cases c50 : x101_4 < ((rd_L1 t563 (x6_2.length : Int)).length : Int)
                ·rw [if_pos c50] at H
                 have c50b0 : decide (x101_4 < ((rd_L1 t563 (x6_2.length : Int)).length : Int)) = true := decide_eq_true c50
                 have c50b0q := c50b0
                 (try simp only [hl4_4, hl6_4] at c50b0q)
                 clear c50
                 by_cases c51 : 0 ≤ (x6_2.length : Int)
                 ·rw [if_pos c51] at H
                  have c51b0 : decide (0 ≤ (x6_2.length : Int)) = true := decide_eq_true c51
                  have c51b0q := c51b0
                  (try simp only [hl4_4, hl6_4] at c51b0q)
                  have c51b1 : decide (0 ≤ x6_2.length) = true := decide_eq_true (by omega)
                  have c51b1q := c51b1
                  (try simp only [hl4_4, hl6_4] at c51b1q)
                  clear c51
                  by_cases c52 : (x6_2.length : Int) < (x4_4.length : Int)
                  ·rw [if_pos c52] at H
                   have c52b0 : decide ((x6_2.length : Int) < (x4_4.length : Int)) = true := decide_eq_true c52
                   have c52b0q := c52b0
                   (try simp only [hl4_4, hl6_4] at c52b0q)
                   have c52b1 : decide (x6_2.length < x4_4.length) = true := decide_eq_true (Int.ofNat_lt.mp c52)
                   have c52b1q := c52b1
                   (try simp only [hl4_4, hl6_4] at c52b1q)
                   clear c52
                   by_cases c53 : 0 ≤ x101_4
                   ·rw [if_pos c53] at H
                    have c53b0 : decide (0 ≤ x101_4) = true := decide_eq_true c53
                    clear c53
                    by_cases c54 : x101_4 < ((rd_L1 x4_4 (x6_2.length : Int)).length : Int)
                    ·rw [if_pos c54] at H
                     have c54b0 : decide (x101_4 < ((rd_L1 x4_4 (x6_2.length : Int)).length : Int)) = true := decide_eq_true c54
                     have c54b0q := c54b0
                     (try simp only [hl4_4, hl6_4] at c54b0q)
                     clear c54
                     by_cases c55 : a0_0 = 0
                     ·rw [if_pos c55] at H
                      exact absurd H (by simp)
                     ·rw [if_neg c55] at H
                      have c55b0 : (a0_0 == 0) = false := beq_eq_false_iff_ne.mpr c55
                      have c55b1 : (a0_0 != 0) = true := bne_iff_ne.mpr c55
                      obtain ⟨y571, hy571⟩ : ∃ y_ : List Int, y_ = ((rd_L1 x4_4 (x6_2.length : Int)).set (x101_4 : Int).toNat (Int.tmod (wrap64 ((rd (rd_L1 x4_4 (x6_2.length : Int)) x101_4) * t566)) a0_0)) := ⟨_, rfl⟩
                      replace H : (impl_reduce.l3 k4 (x4_4.set ((x6_2.length : Int) : Int).toNat y571) x6_4 x7_2 (x6_2.length : Int) t566 ((rd_L1 t563 (x6_2.length : Int)).length : Int) (wrap64 (x101_4 + 1)) a0_0 a0_1 a0_2 l0_3) = some (r1, r2, r3, r4, r5) := by first | (rw [hy571]; with_reducible exact H) | (have H2_ := (Option.bind_some _ _).symm.trans H; rw [hy571]; with_reducible exact H2_) | (have H2_ := (Option.bind_some _ _).symm.trans H; with_reducible exact H2_) | with_reducible exact H | (rw [hy571]; exact H) | exact H
                      have Ny571 := Aside0.mk hy571
                      clear hy571
                      obtain ⟨y573, hy573⟩ : ∃ y_ : List (List Int), y_ = (x4_4.set ((x6_2.length : Int) : Int).toNat y571) := ⟨_, rfl⟩
                      replace H : (impl_reduce.l3 k4 y573 x6_4 x7_2 (x6_2.length : Int) t566 ((rd_L1 t563 (x6_2.length : Int)).length : Int) (wrap64 (x101_4 + 1)) a0_0 a0_1 a0_2 l0_3) = some (r1, r2, r3, r4, r5) := by first | (rw [hy573]; with_reducible exact H) | (have H2_ := (Option.bind_some _ _).symm.trans H; rw [hy573]; with_reducible exact H2_) | (have H2_ := (Option.bind_some _ _).symm.trans H; with_reducible exact H2_) | with_reducible exact H | (rw [hy573]; exact H) | exact H
                      have Ny573 := Aside0.mk hy573
                      clear hy573
                      have H' := Aside0.mk H
                      clear H
                      try go_wp2
                      replace HO_4 := Aside0.mk (Kd.S_drew HO_4.out)
                      replace HO_6 := Aside0.mk (Kd.R_drew HO_6.out)
                      replace BK543 := Aside0.mk (blk_drew BK543.out)
                      replace BK544 := Aside0.mk (blk_drew BK544.out)
                      replace HB := Aside0.mk (below_drew1 HB.out)
                      have p568 : 0 ≤ ((x6_2.length : Int) : Int) := oD
                      have q568 : (x6_2.length : Int) < (x4_4.length : Int) := oD
                      obtain ⟨ad568, A568_0, c568_0, e568, hx568_0, hl568_0, hi568_0⟩ := at_L1 (Kd.S_reads' HO_4.out).2.2 (x6_2.length : Int) p568 q568
                      obtain rfl : ad564 = ad568 := (by injection e568)
                      obtain ⟨ce568, hce568, hMe568, hcc568⟩ := Kd.S_get HO_4.out [] (x6_2.length : Int) p568 (by first | exact q568 | exact oD | (have e_ := (Kd.S_reads' HO_4.out).1; omega))
                      obtain ⟨ve568_0, rfl, ge568_0⟩ := hMe568
                      have hv568_0 := hcc568 0 _ rfl
                      rw [Nat.add_zero, show ((Kd.slice 3 (Kd.int .i64))).sz = 1 from rfl, Nat.mul_one] at hv568_0
                      replace hv568_0 := Option.some.inj (hv568_0.symm.trans hx568_0)
                      rw [hv568_0] at ge568_0
                      have HL568_0 := Aside0.mk (show Kd.R (Kd.int .i64) 3 _ _ _ _ (rd_L1 x4_4 (x6_2.length : Int)) from ge568_0)
                      clear hv568_0 ge568_0
                      have HX568_0 := Aside0.mk hx568_0
                      clear hcc568 hce568
                      have HR568_0 := Aside0.mk hi568_0
                      have HC568_0 := Aside0.mk hl568_0
                      clear hi568_0 hl568_0
                      (try simp only [Go.IntWalk.toNatUp] at hx568_0)
                      (try simp only [hl4_4, hl6_4] at p568)
                      (try simp only [hl4_4, hl6_4] at q568)
                      (try simp only [hl4_4, hl6_4] at hx568_0)
                      (try simp only [hl4_4, hl6_4] at p568)
                      (try simp only [hl4_4, hl6_4] at q568)
                      (try simp only [hl4_4, hl6_4] at hx568_0)
                      replace p568 := eq_true p568
                      replace q568 := eq_true q568
                      have p569 : 0 ≤ ((x6_2.length : Int) : Int) := oD
                      have q569 : (x6_2.length : Int) < (x4_4.length : Int) := oD
                      obtain ⟨ad569, A569_0, c569_0, e569, hx569_0, hl569_0, hi569_0⟩ := at_L1 (Kd.S_reads' HO_4.out).2.2 (x6_2.length : Int) p569 q569
                      obtain rfl : ad564 = ad569 := (by injection e569)
                      obtain ⟨ce569, hce569, hMe569, hcc569⟩ := Kd.S_get HO_4.out [] (x6_2.length : Int) p569 (by first | exact q569 | exact oD | (have e_ := (Kd.S_reads' HO_4.out).1; omega))
                      obtain ⟨ve569_0, rfl, ge569_0⟩ := hMe569
                      have hv569_0 := hcc569 0 _ rfl
                      rw [Nat.add_zero, show ((Kd.slice 3 (Kd.int .i64))).sz = 1 from rfl, Nat.mul_one] at hv569_0
                      replace hv569_0 := Option.some.inj (hv569_0.symm.trans hx569_0)
                      rw [hv569_0] at ge569_0
                      have HL569_0 := Aside0.mk (show Kd.R (Kd.int .i64) 3 _ _ _ _ (rd_L1 x4_4 (x6_2.length : Int)) from ge569_0)
                      clear hv569_0 ge569_0
                      have HX569_0 := Aside0.mk hx569_0
                      clear hcc569 hce569
                      have HR569_0 := Aside0.mk hi569_0
                      have HC569_0 := Aside0.mk hl569_0
                      clear hi569_0 hl569_0
                      (try simp only [Go.IntWalk.toNatUp] at hx569_0)
                      (try simp only [hl4_4, hl6_4] at p569)
                      (try simp only [hl4_4, hl6_4] at q569)
                      (try simp only [hl4_4, hl6_4] at hx569_0)
                      (try simp only [hl4_4, hl6_4] at p569)
                      (try simp only [hl4_4, hl6_4] at q569)
                      (try simp only [hl4_4, hl6_4] at hx569_0)
                      replace p569 := eq_true p569
                      replace q569 := eq_true q569
                      have ea_ := Option.some.inj (hx568_0.symm.trans hx569_0)
                      injection ea_ with ea_ en_ ec_
                      subst ea_
                      subst ec_
                      clear en_
                      have p570 : 0 ≤ (x101_4 : Int) := oD
                      have q570 : x101_4 < ((rd_L1 x4_4 (x6_2.length : Int)).length : Int) := oD
                      obtain ⟨ad570, e570, hx570_0⟩ := Kd.at_int (by repeat (first | (with_reducible exact HR569_0.out) | (with_reducible refine Kd.C_alloc ?_ _) | (with_reducible refine Kd.C_drewN ?_ _) | (with_reducible refine Kd.C_drew ?_) | exact HR569_0.out)) x101_4 p570 q570
                      cases e570
                      (try simp only [hl4_4, hl6_4] at p570)
                      (try simp only [hl4_4, hl6_4] at q570)
                      (try simp only [hl4_4, hl6_4] at hx570_0)
                      replace p570 := eq_true p570
                      replace q570 := eq_true q570
                      have p56 : 0 ≤ (x101_4 : Int) := oD
                      have q56 : (x101_4 : Int) < (((rd_L1 x4_4 (x6_2.length : Int)).length : Int) : Int) := oD
                      obtain ⟨go56, co56, eo56, gb56, gl56, cl56, HG56⟩ := Kd.R_form HL568_0.out (by omega)
                      (first | cases eo56 | (injection eo56 with ea_ en_ ec_; (first | subst ea_ | (injection ea_ with ea_; subst ea_)); subst ec_; clear en_))
                      have GB56 := Aside0.mk gb56
                      have GG56 := Aside0.mk HG56
                      clear gb56 gl56 HG56
                      (first | simp only [add_plain] at hx570_0 | skip)
                      obtain ⟨hx56_0, hf56_0⟩ := Kd.R_celln 0 HL568_0.out (x101_4 : Int) p56 q56
                      (try simp only [hl4_4, hl6_4] at p56)
                      (try simp only [hl4_4, hl6_4] at q56)
                      (try simp only [hl4_4, hl6_4] at hx56_0)
                      replace p56 := eq_true p56
                      replace q56 := eq_true q56
                      have hq58 : ((x6_2.length : Int) : Int) < (x4_4.length : Int) := (by have h_ : ((x6_2.length : Int) : Int) < ((x4_4.length : Int) : Int) := oD; first | exact h_ | (have e_ := (Kd.S_reads' HO_4.out).1; omega) | simpa only [List.length_set, List.length_set] using h_)
                      obtain ⟨oki58, ce58, hcl58, hM58, hcc58, hok58, hbk58⟩ := Kd.S_borrow HO_4.out [] ((x6_2.length : Int) : Int) (oD) hq58
                      obtain ⟨ve58_0, rfl, ge58_0⟩ := hM58
                      have hv58 := hcc58 0 _ rfl
                      rw [Nat.add_zero, show ((Kd.slice 3 (Kd.int .i64))).sz = 1 from rfl, Nat.mul_one] at hv58
                      replace hv58 := Option.some.inj (hv58.symm.trans HX568_0.out)
                      subst hv58
                      clear hcc58 hcl58
                      replace ge58_0 := (show Kd.R (Kd.int .i64) 3 _ _ _ _ (rd_L1 x4_4 (x6_2.length : Int)) from ge58_0)
                      have HP58 := Kd.R_putg ge58_0 (x101_4 : Int) (Int.tmod (wrap64 ((rd (rd_L1 x4_4 (x6_2.length : Int)) x101_4) * t566)) a0_0)
                      rw [← Ny571.out] at HP58
                      have HS58 := hbk58 HP58.2 (fun k_ e_ => by injection e_ with e_; subst e_; exact ge58_0.1 _ rfl) (x' := y571) (Kd.M_row HP58.1)
                      rw [← Ny573.out] at HS58
                      have HQ58 := Aside0.mk HS58
                      clear HP58 HS58 hbk58 hok58
                      (try simp only [hl4_4, hl6_4] at HQ58)
                      refine start_ (n := 19) (S := fun w' => w'.cell? ⟨gb543, 0, none⟩ = some (.int .i64 a0_0) ∧ w'.cell? ⟨gb543, 1, none⟩ = some (.int .i64 a0_1) ∧ w'.cell? ⟨gb543, 2, none⟩ = some (.int .i64 a0_2) ∧ w'.cell? ⟨gb543, 3, none⟩ = some (.slice A0_3 l0_3.length c0_3) ∧ w'.cell? (ad564.add x6_4.length) = some (.slice (some (⟨go56, 0, none⟩ : Addr)) (rd_L1 x4_4 (x6_4.length : Int)).length c568_0) ∧ w'.cell? (ad564.add x6_4.length) = some (.slice (some (⟨go56, 0, none⟩ : Addr)) (rd_L1 x4_4 (x6_4.length : Int)).length c568_0) ∧ w'.cell? ⟨go56, (x101_4).toNat, none⟩ = some (.int .i64 (rd (rd_L1 x4_4 (x6_4.length : Int)) x101_4))) (ds := [18]) #[false, false, false, false, false, false, false, false, false, false, false, false, false, false, false, false, false, false, false] kr rfl rfl ⟨(blk_cell BK543.out 0).trans rfl, (blk_cell BK543.out 1).trans rfl, (blk_cell BK543.out 2).trans rfl, (blk_cell BK543.out 3).trans rfl, hx568_0, hx569_0, hx570_0⟩ (fun hHeld => ?_); refine with_tabW impl_reduce.tab20 impl_reduce.bits20 (fun HT_ HW_ => ?_)
                      generalize wr.drew = w57 at HO_4 HO_6 BK543 BK544 HB GG56 HL568_0 HL569_0 HQ58 HR568_0 HR569_0 HX568_0 HX569_0 hf56_0 hx568_0 hx569_0 hx56_0 hx570_0 hHeld ⊢
                      refine pA 0 104 (any_of HT_.out kr) ?_
                      refine pA 1 105 (any_of HT_.out kr) ?_
                      refine pA 2 106 (any_of HT_.out kr) ?_
                      refine pA 4 108 (any_of HT_.out kr) ?_
                      refine pA 5 109 (any_of HT_.out kr) ?_
                      refine pA 6 110 (any_of HT_.out kr) ?_
                      refine pA 7 111 (any_of HT_.out kr) ?_
                      refine pA 9 113 (any_of HT_.out kr) ?_
                      refine pA 12 116 (any_of HT_.out kr) ?_
                      refine pA 14 118 (any_of HT_.out kr) ?_
                      refine tA7 3 107 (take_ofW HT_.out HW_.out kr) hHeld ?_
                      refine tA7 8 112 (take_ofW HT_.out HW_.out kr) hHeld ?_
                      refine pA 10 114 (any_of HT_.out kr) ?_
                      refine tA7 11 115 (take_ofW HT_.out HW_.out kr) hHeld ?_
                      refine pA 13 117 (any_of HT_.out kr) ?_
                      refine tA7 15 119 (take_ofW HT_.out HW_.out kr) hHeld ?_
                      refine pA 16 120 (any_of HT_.out kr) ?_
                      refine pA 17 121 (any_of HT_.out kr) ?_
                      refine last_ (i := 18) (N := none) #[true, true, true, true, true, true, true, true, true, true, true, true, true, true, true, true, true, true, true] rfl rfl (one_of HT_.out kr) (by decide) (fun K hK => ?_)
                      refine skip_ (w1 := ?_) (by rfl) rfl ?_ ?_
                      rotate_left
                      ·go_simp
                       rfl
                      refine hK.out _ _ ?_
                      clear hK K
                      refine done_ (done_of HT_.out kr) ?_
                      try go_wp2
                      (try simp only [← hl4_4, ← hl6_4])
                      go_roundg k4
                      case measure => have := HK1.out; have := HK2.out; have := HJ26.out; have := HK4.out; omega
                      case rel => exact ⟨(y573), (x6_4), (wrap64 (x101_4 + 1)), p7, H', ⟨by have := HK1.out; have := HK2.out; have := HJ26.out; have := HK4.out; omega⟩, ⟨by (try simp only [hl4_4]); (try simp only [hl6_4]); (with_reducible repeat (first | apply Kd.S_alloc | apply Kd.S_drewN | apply Kd.S_drew)); exact HQ58.out⟩, ⟨by (try simp only [hl4_4]); (try simp only [hl6_4]); (with_reducible repeat (first | apply Kd.R_alloc | apply Kd.R_drewN | apply Kd.R_drew)); exact Kd.R_mono (Kd.R_far (p := ⟨go56, (x101_4 : Int).toNat, none⟩) (Kd.R_far1 HO_6.out rfl ((HL568_0.out.1 _ rfl).1)) (fun _ hk => hk.2) (.int .i64 (Int.tmod (wrap64 ((rd (rd_L1 x4_4 (x6_4.length : Int)) x101_4) * t566)) a0_0))) (fun _ hk => trivial)⟩, ⟨by (try simp only [hl4_4]); (try simp only [hl6_4]); (with_reducible repeat (first | refine blk_drewN ?_ _ | refine blk_drew ?_ | refine blk_alloc ?_ _)); refine blk_far ?_ (by have h_ := Kd.R_ne HL568_0.out BK543.out (by decide); intro e_; exact h_ (by rw [e_]; rfl)) _; (with_reducible repeat (first | refine blk_drewN ?_ _ | refine blk_drew ?_ | refine blk_alloc ?_ _)); exact BK543.out⟩, ⟨by (try simp only [hl4_4]); (try simp only [hl6_4]); (with_reducible repeat (first | refine blk_drewN ?_ _ | refine blk_drew ?_ | refine blk_alloc ?_ _)); refine blk_far ?_ (by have h_ := Kd.R_ne HL568_0.out BK544.out (by decide); intro e_; exact h_ (by rw [e_]; rfl)) _; (with_reducible repeat (first | refine blk_drewN ?_ _ | refine blk_drew ?_ | refine blk_alloc ?_ _)); exact BK544.out⟩, ⟨by repeat (first | (with_reducible first | exact HB.out | apply below_alloc | apply pw_below_drewN | apply below_drew1 | refine below_set ?_ GB56.out | refine below_set ?_ GE543.out | refine below_set ?_ GE544.out) | exact HB.out)⟩⟩
                    ·rw [if_neg c54] at H
                     exact absurd H (by simp)
                   ·rw [if_neg c53] at H
                    exact absurd H (by simp)
                  ·rw [if_neg c52] at H
                   exact absurd H (by simp)
                 ·rw [if_neg c51] at H
                  exact absurd H (by simp)
                ·rw [if_neg c50] at H
                 have c50b0 : decide (x101_4 < ((rd_L1 t563 (x6_2.length : Int)).length : Int)) = false := decide_eq_false c50
                 have c50b0q := c50b0
                 (try simp only [hl4_4, hl6_4] at c50b0q)
                 clear c50
                 have H' := Aside0.mk H
                 clear H
                 go_wp2
                 go_loopg [125] k4 (fun kq v125 w' => ∃ (x4_5 : List (List Int)) (x6_5 : List Int) (x125_5 : Int), v125 = .int .i64 x125_5 ∧ Aside0 (impl_reduce.l4 kq x4_5 x6_5 x7_2 (x6_2.length : Int) (x4_4.length : Int) x125_5 a0_0 a0_1 a0_2 l0_3 = some (r1, r2, r3, r4, r5)) ∧ Aside0 (kq ≤ k4) ∧ Aside0 (Kd.S (Kd.slice 3 (Kd.int .i64)) 22 w' w.heap.size (fun k_ => some k_ ≠ ((.slice Ao30 x6_4.length co30) : Value).ownBlock) (.slice (some ad564) x4_4.length co47) x4_5) ∧ Aside0 (Kd.R (Kd.int .i64) 3 w' w.heap.size (fun _ => True) (.slice Ao30 x6_4.length co30) x6_5) ∧ Aside0 (w'.heap[gb543]? = some (.cells #[.int .i64 a0_0, .int .i64 a0_1, .int .i64 a0_2, (.slice A0_3 l0_3.length c0_3)] 32 (0, 0))) ∧ Aside0 (w'.heap[gb544]? = some (.cells #[.int .i64 0, .int .i64 0, .int .i64 0, (.slice none 0 0)] 32 (0, 0))) ∧ Aside0 (Below w.heap.size w w'))
                 case atStart => exact ⟨(x4_4), (x6_4), (0), p7, H', ⟨Nat.le_refl _⟩, ⟨by (try simp only [hl4_4]); (try simp only [hl6_4]); (with_reducible repeat (first | apply Kd.S_alloc | apply Kd.S_drewN | apply Kd.S_drew)); exact HO_4.out⟩, ⟨by (try simp only [hl4_4]); (try simp only [hl6_4]); (with_reducible repeat (first | apply Kd.R_alloc | apply Kd.R_drewN | apply Kd.R_drew)); exact HO_6.out⟩, ⟨by (try simp only [hl4_4]); (try simp only [hl6_4]); (with_reducible repeat (first | refine blk_drewN ?_ _ | refine blk_drew ?_ | refine blk_alloc ?_ _)); exact BK543.out⟩, ⟨by (try simp only [hl4_4]); (try simp only [hl6_4]); (with_reducible repeat (first | refine blk_drewN ?_ _ | refine blk_drew ?_ | refine blk_alloc ?_ _)); exact BK544.out⟩, ⟨pB⟩⟩
                 case round =>
                  clear H'
                  try clear c6
                  try clear c6b0
                  try clear c26
                  try clear c26b0
                  try clear c39
                  try clear c39b0
                  try clear c42
                  try clear c42b0
                  try clear c42b1
                  try clear c43
                  try clear c43b0
                  try clear c43b1
                  try clear c44
                  try clear c44b0
                  try clear c45
                  try clear c45b0
                  try clear c50
                  try clear c50b0
                  try clear hcz23_0
                  try clear hcz23_1
                  try clear hcz23_2
                  try clear hcz23_3
                  try clear hcz29_0
                  try clear hcz29_1
                  try clear hcz29_2
                  try clear hcz29_3
                  try clear hfz23_0
                  try clear hfz23_1
                  try clear hfz23_2
                  try clear hfz23_3
                  try clear hfz29_0
                  try clear hfz29_1
                  try clear hfz29_2
                  try clear hfz29_3
                  try clear hx564_0
                  try clear hx565_0
                  try clear hx567_0
                  try clear p564
                  try clear p565
                  try clear p567
                  try clear q564
                  try clear q565
                  try clear q567
                  obtain ⟨x4_5, x6_5, x125_5, rfl, HA, HK5, HO_4, HO_6, BK543, BK544, HB⟩ := hrel
                  have hl4_5 := (Kd.S_reads' HO_4.out).1
                  rw [hl4_5] at HO_4
                  (try simp only [hl4_5])
                  (try simp only [hl4_5] at BK543)
                  (try simp only [hl4_5] at BK544)
                  (try simp only [hl4_5] at HO_6)
                  have hl6_5 := (Kd.R_reads' HO_6.out).1
                  rw [hl6_5] at HO_6
                  (try simp only [hl6_5])
                  (try simp only [hl6_5] at BK543)
                  (try simp only [hl6_5] at BK544)
                  (try simp only [hl6_5] at HO_4)
                  cases gk with
                  | zero => exact absurd HA.out (by simp [impl_reduce.l4])
                  | succ k5 =>
                   have H := HA.out
                   clear HA
                   simp only [impl_reduce.l4] at H
                   by_cases c60 : x125_5 < (x4_4.length : Int)
                   ·rw [if_pos c60] at H
                    have c60b0 : decide (x125_5 < (x4_4.length : Int)) = true := decide_eq_true c60
                    have c60b0q := c60b0
                    (try simp only [hl4_4, hl6_4, hl4_5, hl6_5] at c60b0q)
                    clear c60
                    by_cases c61 : 0 ≤ x125_5
                    ·rw [if_pos c61] at H
                     have c61b0 : decide (0 ≤ x125_5) = true := decide_eq_true c61
                     clear c61
                     by_cases c62 : x125_5 < (x4_5.length : Int)
                     ·rw [if_pos c62] at H
                      have c62b0 : decide (x125_5 < (x4_5.length : Int)) = true := decide_eq_true c62
                      have c62b0q := c62b0
                      (try simp only [hl4_4, hl6_4, hl4_5, hl6_5] at c62b0q)
                      clear c62
                      by_cases c63 : 0 ≤ x7_2
                      ·rw [if_pos c63] at H
                       have c63b0 : decide (0 ≤ x7_2) = true := decide_eq_true c63
                       clear c63
                       by_cases c64 : x7_2 < ((rd_L1 x4_5 x125_5).length : Int)
                       ·rw [if_pos c64] at H
                        have c64b0 : decide (x7_2 < ((rd_L1 x4_5 x125_5).length : Int)) = true := decide_eq_true c64
                        clear c64
                        have H' := Aside0.mk H
                        clear H
                        have p577 : 0 ≤ (x125_5 : Int) := oD
                        have q577 : x125_5 < (x4_5.length : Int) := oD
                        obtain ⟨ad577, A577_0, c577_0, e577, hx577_0, hl577_0, hi577_0⟩ := at_L1 (Kd.S_reads' HO_4.out).2.2 x125_5 p577 q577
                        obtain rfl : ad564 = ad577 := (by injection e577)
                        obtain ⟨ce577, hce577, hMe577, hcc577⟩ := Kd.S_get HO_4.out [] x125_5 p577 (by first | exact q577 | exact oD | (have e_ := (Kd.S_reads' HO_4.out).1; omega))
                        obtain ⟨ve577_0, rfl, ge577_0⟩ := hMe577
                        have hv577_0 := hcc577 0 _ rfl
                        rw [Nat.add_zero, show ((Kd.slice 3 (Kd.int .i64))).sz = 1 from rfl, Nat.mul_one] at hv577_0
                        replace hv577_0 := Option.some.inj (hv577_0.symm.trans hx577_0)
                        rw [hv577_0] at ge577_0
                        have HL577_0 := Aside0.mk (show Kd.R (Kd.int .i64) 3 _ _ _ _ (rd_L1 x4_5 x125_5) from ge577_0)
                        clear hv577_0 ge577_0
                        have HX577_0 := Aside0.mk hx577_0
                        clear hcc577 hce577
                        have HR577_0 := Aside0.mk hi577_0
                        have HC577_0 := Aside0.mk hl577_0
                        clear hi577_0 hl577_0
                        (try simp only [hl4_4, hl6_4, hl4_5, hl6_5] at p577)
                        (try simp only [hl4_4, hl6_4, hl4_5, hl6_5] at q577)
                        (try simp only [hl4_4, hl6_4, hl4_5, hl6_5] at hx577_0)
                        replace p577 := eq_true p577
                        replace q577 := eq_true q577
                        have p578 : 0 ≤ (x7_2 : Int) := oD
                        have q578 : x7_2 < ((rd_L1 x4_5 x125_5).length : Int) := oD
                        obtain ⟨ad578, e578, hx578_0⟩ := Kd.at_int (by repeat (first | (with_reducible exact HR577_0.out) | (with_reducible refine Kd.C_alloc ?_ _) | (with_reducible refine Kd.C_drewN ?_ _) | (with_reducible refine Kd.C_drew ?_) | exact HR577_0.out)) x7_2 p578 q578
                        cases e578
                        (try simp only [hl4_4, hl6_4, hl4_5, hl6_5] at p578)
                        (try simp only [hl4_4, hl6_4, hl4_5, hl6_5] at q578)
                        (try simp only [hl4_4, hl6_4, hl4_5, hl6_5] at hx578_0)
                        replace p578 := eq_true p578
                        replace q578 := eq_true q578
                        go_wp2
                        go_loopg [14] k5 (fun kq v14 w' => ∃ (x4_6 : List (List Int)) (x6_6 : List Int) (x14_6 : Int), v14 = .int .i64 x14_6 ∧ Aside0 (impl_reduce.l5 kq x4_6 x6_6 x7_2 (x6_2.length : Int) x125_5 (rd (rd_L1 x4_5 x125_5) x7_2) x14_6 (x4_4.length : Int) x125_5 a0_0 a0_1 a0_2 l0_3 = some (r1, r2, r3, r4, r5)) ∧ Aside0 (kq ≤ k5) ∧ Aside0 (Kd.S (Kd.slice 3 (Kd.int .i64)) 22 w' w.heap.size (fun k_ => some k_ ≠ ((.slice Ao30 x6_5.length co30) : Value).ownBlock) (.slice (some ad564) x4_5.length co47) x4_6) ∧ Aside0 (Kd.R (Kd.int .i64) 3 w' w.heap.size (fun _ => True) (.slice Ao30 x6_5.length co30) x6_6) ∧ Aside0 (w'.heap[gb543]? = some (.cells #[.int .i64 a0_0, .int .i64 a0_1, .int .i64 a0_2, (.slice A0_3 l0_3.length c0_3)] 32 (0, 0))) ∧ Aside0 (w'.heap[gb544]? = some (.cells #[.int .i64 0, .int .i64 0, .int .i64 0, (.slice none 0 0)] 32 (0, 0))) ∧ Aside0 (Below w.heap.size w w'))
                        case atStart => exact ⟨(x4_5), (x6_5), (0), p7, H', ⟨Nat.le_refl _⟩, ⟨by (try simp only [hl4_4]); (try simp only [hl6_4]); (try simp only [hl4_5]); (try simp only [hl6_5]); (with_reducible repeat (first | apply Kd.S_alloc | apply Kd.S_drewN | apply Kd.S_drew)); exact HO_4.out⟩, ⟨by (try simp only [hl4_4]); (try simp only [hl6_4]); (try simp only [hl4_5]); (try simp only [hl6_5]); (with_reducible repeat (first | apply Kd.R_alloc | apply Kd.R_drewN | apply Kd.R_drew)); exact HO_6.out⟩, ⟨by (try simp only [hl4_4]); (try simp only [hl6_4]); (try simp only [hl4_5]); (try simp only [hl6_5]); (with_reducible repeat (first | refine blk_drewN ?_ _ | refine blk_drew ?_ | refine blk_alloc ?_ _)); exact BK543.out⟩, ⟨by (try simp only [hl4_4]); (try simp only [hl6_4]); (try simp only [hl4_5]); (try simp only [hl6_5]); (with_reducible repeat (first | refine blk_drewN ?_ _ | refine blk_drew ?_ | refine blk_alloc ?_ _)); exact BK544.out⟩, ⟨pB⟩⟩
                        case round =>
                         clear H'
                         try clear c6
                         try clear c6b0
                         try clear c26
                         try clear c26b0
                         try clear c39
                         try clear c39b0
                         try clear c42
                         try clear c42b0
                         try clear c42b1
                         try clear c43
                         try clear c43b0
                         try clear c43b1
                         try clear c44
                         try clear c44b0
                         try clear c45
                         try clear c45b0
                         try clear c50
                         try clear c50b0
                         try clear c60
                         try clear c60b0
                         try clear c61
                         try clear c61b0
                         try clear c62
                         try clear c62b0
                         try clear c63
                         try clear c63b0
                         try clear c64
                         try clear c64b0
                         try clear hcz23_0
                         try clear hcz23_1
                         try clear hcz23_2
                         try clear hcz23_3
                         try clear hcz29_0
                         try clear hcz29_1
                         try clear hcz29_2
                         try clear hcz29_3
                         try clear hfz23_0
                         try clear hfz23_1
                         try clear hfz23_2
                         try clear hfz23_3
                         try clear hfz29_0
                         try clear hfz29_1
                         try clear hfz29_2
                         try clear hfz29_3
                         try clear hx564_0
                         try clear hx565_0
                         try clear hx567_0
                         try clear hx577_0
                         try clear hx578_0
                         try clear p564
                         try clear p565
                         try clear p567
                         try clear p577
                         try clear p578
                         try clear q564
                         try clear q565
                         try clear q567
                         try clear q577
                         try clear q578
                         obtain ⟨x4_6, x6_6, x14_6, rfl, HA, HK6, HO_4, HO_6, BK543, BK544, HB⟩ := hrel
                         have hl4_6 := (Kd.S_reads' HO_4.out).1
                         rw [hl4_6] at HO_4
                         (try simp only [hl4_6])
                         (try simp only [hl4_6] at BK543)
                         (try simp only [hl4_6] at BK544)
                         (try simp only [hl4_6] at HO_6)
                         have hl6_6 := (Kd.R_reads' HO_6.out).1
                         rw [hl6_6] at HO_6
                         (try simp only [hl6_6])
                         (try simp only [hl6_6] at BK543)
                         (try simp only [hl6_6] at BK544)
                         (try simp only [hl6_6] at HO_4)
                         cases gk with
                         | zero => exact absurd HA.out (by simp [impl_reduce.l5])
                         | succ k6 =>
                          have H := HA.out
                          clear HA
                          simp only [impl_reduce.l5] at H
                          by_cases c65 : x14_6 < a0_2
                          ·rw [if_pos c65] at H
                           have c65b0 : decide (x14_6 < a0_2) = true := decide_eq_true c65
                           clear c65
                           by_cases c66 : x125_5 = (x6_2.length : Int)
                           ·rw [if_pos c66] at H
                            have c66b0 : (x125_5 == (x6_2.length : Int)) = true := beq_iff_eq.mpr c66
                            have c66b0q := c66b0
                            (try simp only [hl4_4, hl6_4, hl4_5, hl6_5, hl4_6, hl6_6] at c66b0q)
                            have c66b1 : (x125_5 != (x6_2.length : Int)) = false := bne_eq_false_iff_eq.mpr c66
                            have c66b1q := c66b1
                            (try simp only [hl4_4, hl6_4, hl4_5, hl6_5, hl4_6, hl6_6] at c66b1q)
                            clear c66
                            have H' := Aside0.mk H
                            clear H
                            have hnb67 := NB543_544.out
                            have hnc67 := NB544_543.out
                            obtain ⟨hcz68_0, hcz68_1, hcz68_2, hcz68_3, hfz68_0, hfz68_1, hfz68_2, hfz68_3⟩ := bc4 BK543.out
                            go_wp2
                            (try simp only [← hl4_5, ← hl6_5, ← hl4_6, ← hl6_6])
                            go_roundg k6
                            case measure => have := HK1.out; have := HK2.out; have := HJ26.out; have := HK4.out; have := HK5.out; have := HK6.out; omega
                            case rel => exact ⟨(x4_6), (x6_6), (wrap64 (x125_5 + 1)), p7, H', ⟨by have := HK1.out; have := HK2.out; have := HJ26.out; have := HK4.out; have := HK5.out; have := HK6.out; omega⟩, ⟨by (try simp only [hl4_4]); (try simp only [hl6_4]); (try simp only [hl4_5]); (try simp only [hl6_5]); (try simp only [hl4_6]); (try simp only [hl6_6]); (with_reducible repeat (first | apply Kd.S_alloc | apply Kd.S_drewN | apply Kd.S_drew)); exact HO_4.out⟩, ⟨by (try simp only [hl4_4]); (try simp only [hl6_4]); (try simp only [hl4_5]); (try simp only [hl6_5]); (try simp only [hl4_6]); (try simp only [hl6_6]); (with_reducible repeat (first | apply Kd.R_alloc | apply Kd.R_drewN | apply Kd.R_drew)); exact HO_6.out⟩, ⟨by (try simp only [hl4_4]); (try simp only [hl6_4]); (try simp only [hl4_5]); (try simp only [hl6_5]); (try simp only [hl4_6]); (try simp only [hl6_6]); (with_reducible repeat (first | refine blk_drewN ?_ _ | refine blk_drew ?_ | refine blk_alloc ?_ _)); exact BK543.out⟩, ⟨by (try simp only [hl4_4]); (try simp only [hl6_4]); (try simp only [hl4_5]); (try simp only [hl6_5]); (try simp only [hl4_6]); (try simp only [hl6_6]); (with_reducible repeat (first | refine blk_drewN ?_ _ | refine blk_drew ?_ | refine blk_alloc ?_ _)); exact BK544.out⟩, ⟨pB⟩⟩
                           ·rw [if_neg c66] at H
                            have c66b0 : (x125_5 == (x6_2.length : Int)) = false := beq_eq_false_iff_ne.mpr c66
                            have c66b0q := c66b0
                            (try simp only [hl4_4, hl6_4, hl4_5, hl6_5, hl4_6, hl6_6] at c66b0q)
                            have c66b1 : (x125_5 != (x6_2.length : Int)) = true := bne_iff_ne.mpr c66
                            have c66b1q := c66b1
                            (try simp only [hl4_4, hl6_4, hl4_5, hl6_5, hl4_6, hl6_6] at c66b1q)
                            by_cases c69 : 0 ≤ x125_5
                            ·rw [if_pos c69] at H
                             have c69b0 : decide (0 ≤ x125_5) = true := decide_eq_true c69
                             clear c69
                             by_cases c70 : x125_5 < (x4_6.length : Int)
                             ·rw [if_pos c70] at H
                              have c70b0 : decide (x125_5 < (x4_6.length : Int)) = true := decide_eq_true c70
                              have c70b0q := c70b0
                              (try simp only [hl4_4, hl6_4, hl4_5, hl6_5, hl4_6, hl6_6] at c70b0q)
                              clear c70
                              by_cases c71 : 0 ≤ x14_6
                              ·rw [if_pos c71] at H
                               have c71b0 : decide (0 ≤ x14_6) = true := decide_eq_true c71
                               clear c71
                               by_cases c72 : x14_6 < ((rd_L1 x4_6 x125_5).length : Int)
                               ·rw [if_pos c72] at H
                                have c72b0 : decide (x14_6 < ((rd_L1 x4_6 x125_5).length : Int)) = true := decide_eq_true c72
                                clear c72
                                by_cases c73 : 0 ≤ (x6_2.length : Int)
                                ·rw [if_pos c73] at H
                                 have c73b0 : decide (0 ≤ (x6_2.length : Int)) = true := decide_eq_true c73
                                 have c73b0q := c73b0
                                 (try simp only [hl4_4, hl6_4, hl4_5, hl6_5, hl4_6, hl6_6] at c73b0q)
                                 have c73b1 : decide (0 ≤ x6_2.length) = true := decide_eq_true (by omega)
                                 have c73b1q := c73b1
                                 (try simp only [hl4_4, hl6_4, hl4_5, hl6_5, hl4_6, hl6_6] at c73b1q)
                                 clear c73
                                 by_cases c74 : (x6_2.length : Int) < (x4_6.length : Int)
                                 ·rw [if_pos c74] at H
                                  have c74b0 : decide ((x6_2.length : Int) < (x4_6.length : Int)) = true := decide_eq_true c74
                                  have c74b0q := c74b0
                                  (try simp only [hl4_4, hl6_4, hl4_5, hl6_5, hl4_6, hl6_6] at c74b0q)
                                  have c74b1 : decide (x6_2.length < x4_6.length) = true := decide_eq_true (Int.ofNat_lt.mp c74)
                                  have c74b1q := c74b1
                                  (try simp only [hl4_4, hl6_4, hl4_5, hl6_5, hl4_6, hl6_6] at c74b1q)
                                  clear c74
                                  by_cases c75 : x14_6 < ((rd_L1 x4_6 (x6_2.length : Int)).length : Int)
                                  ·rw [if_pos c75] at H
                                   have c75b0 : decide (x14_6 < ((rd_L1 x4_6 (x6_2.length : Int)).length : Int)) = true := decide_eq_true c75
                                   have c75b0q := c75b0
                                   (try simp only [hl4_4, hl6_4, hl4_5, hl6_5, hl4_6, hl6_6] at c75b0q)
                                   clear c75
                                   by_cases c76 : a0_0 = 0
                                   ·rw [if_pos c76] at H
                                    exact absurd H (by simp)
                                   ·rw [if_neg c76] at H
                                    have c76b0 : (a0_0 == 0) = false := beq_eq_false_iff_ne.mpr c76
                                    have c76b1 : (a0_0 != 0) = true := bne_iff_ne.mpr c76
                                    obtain ⟨y584, hy584⟩ : ∃ y_ : List Int, y_ = ((rd_L1 x4_6 x125_5).set (x14_6 : Int).toNat (Int.tmod (wrap64 ((rd (rd_L1 x4_6 x125_5) x14_6) + (wrap64 ((wrap64 (a0_0 - (rd (rd_L1 x4_5 x125_5) x7_2))) * (rd (rd_L1 x4_6 (x6_2.length : Int)) x14_6))))) a0_0)) := ⟨_, rfl⟩
                                    replace H : (impl_reduce.l5 k6 (x4_6.set (x125_5 : Int).toNat y584) x6_6 x7_2 (x6_2.length : Int) x125_5 (rd (rd_L1 x4_5 x125_5) x7_2) (wrap64 (x14_6 + 1)) (x4_4.length : Int) x125_5 a0_0 a0_1 a0_2 l0_3) = some (r1, r2, r3, r4, r5) := by first | (rw [hy584]; with_reducible exact H) | (have H2_ := (Option.bind_some _ _).symm.trans H; rw [hy584]; with_reducible exact H2_) | (have H2_ := (Option.bind_some _ _).symm.trans H; with_reducible exact H2_) | with_reducible exact H | (rw [hy584]; exact H) | exact H
                                    have Ny584 := Aside0.mk hy584
                                    clear hy584
                                    obtain ⟨y586, hy586⟩ : ∃ y_ : List (List Int), y_ = (x4_6.set (x125_5 : Int).toNat y584) := ⟨_, rfl⟩
                                    replace H : (impl_reduce.l5 k6 y586 x6_6 x7_2 (x6_2.length : Int) x125_5 (rd (rd_L1 x4_5 x125_5) x7_2) (wrap64 (x14_6 + 1)) (x4_4.length : Int) x125_5 a0_0 a0_1 a0_2 l0_3) = some (r1, r2, r3, r4, r5) := by first | (rw [hy586]; with_reducible exact H) | (have H2_ := (Option.bind_some _ _).symm.trans H; rw [hy586]; with_reducible exact H2_) | (have H2_ := (Option.bind_some _ _).symm.trans H; with_reducible exact H2_) | with_reducible exact H | (rw [hy586]; exact H) | exact H
                                    have Ny586 := Aside0.mk hy586
                                    clear hy586
                                    have H' := Aside0.mk H
                                    clear H
                                    have hnb78 := NB543_544.out
                                    have hnc78 := NB544_543.out
                                    obtain ⟨hcz79_0, hcz79_1, hcz79_2, hcz79_3, hfz79_0, hfz79_1, hfz79_2, hfz79_3⟩ := bc4 BK543.out
                                    try go_wp2
                                    replace HO_4 := Aside0.mk (Kd.S_drew HO_4.out)
                                    replace HO_6 := Aside0.mk (Kd.R_drew HO_6.out)
                                    replace BK543 := Aside0.mk (blk_drew BK543.out)
                                    replace BK544 := Aside0.mk (blk_drew BK544.out)
                                    replace HB := Aside0.mk (below_drew1 HB.out)
                                    have p579 : 0 ≤ (x125_5 : Int) := oD
                                    have q579 : x125_5 < (x4_6.length : Int) := oD
                                    obtain ⟨ad579, A579_0, c579_0, e579, hx579_0, hl579_0, hi579_0⟩ := at_L1 (Kd.S_reads' HO_4.out).2.2 x125_5 p579 q579
                                    obtain rfl : ad564 = ad579 := (by injection e579)
                                    obtain ⟨ce579, hce579, hMe579, hcc579⟩ := Kd.S_get HO_4.out [] x125_5 p579 (by first | exact q579 | exact oD | (have e_ := (Kd.S_reads' HO_4.out).1; omega))
                                    obtain ⟨ve579_0, rfl, ge579_0⟩ := hMe579
                                    have hv579_0 := hcc579 0 _ rfl
                                    rw [Nat.add_zero, show ((Kd.slice 3 (Kd.int .i64))).sz = 1 from rfl, Nat.mul_one] at hv579_0
                                    replace hv579_0 := Option.some.inj (hv579_0.symm.trans hx579_0)
                                    rw [hv579_0] at ge579_0
                                    have HL579_0 := Aside0.mk (show Kd.R (Kd.int .i64) 3 _ _ _ _ (rd_L1 x4_6 x125_5) from ge579_0)
                                    clear hv579_0 ge579_0
                                    have HX579_0 := Aside0.mk hx579_0
                                    clear hcc579 hce579
                                    have HR579_0 := Aside0.mk hi579_0
                                    have HC579_0 := Aside0.mk hl579_0
                                    clear hi579_0 hl579_0
                                    (try simp only [hl4_4, hl6_4, hl4_5, hl6_5, hl4_6, hl6_6] at p579)
                                    (try simp only [hl4_4, hl6_4, hl4_5, hl6_5, hl4_6, hl6_6] at q579)
                                    (try simp only [hl4_4, hl6_4, hl4_5, hl6_5, hl4_6, hl6_6] at hx579_0)
                                    replace p579 := eq_true p579
                                    replace q579 := eq_true q579
                                    have p580 : 0 ≤ (x125_5 : Int) := oD
                                    have q580 : x125_5 < (x4_6.length : Int) := oD
                                    obtain ⟨ad580, A580_0, c580_0, e580, hx580_0, hl580_0, hi580_0⟩ := at_L1 (Kd.S_reads' HO_4.out).2.2 x125_5 p580 q580
                                    obtain rfl : ad564 = ad580 := (by injection e580)
                                    obtain ⟨ce580, hce580, hMe580, hcc580⟩ := Kd.S_get HO_4.out [] x125_5 p580 (by first | exact q580 | exact oD | (have e_ := (Kd.S_reads' HO_4.out).1; omega))
                                    obtain ⟨ve580_0, rfl, ge580_0⟩ := hMe580
                                    have hv580_0 := hcc580 0 _ rfl
                                    rw [Nat.add_zero, show ((Kd.slice 3 (Kd.int .i64))).sz = 1 from rfl, Nat.mul_one] at hv580_0
                                    replace hv580_0 := Option.some.inj (hv580_0.symm.trans hx580_0)
                                    rw [hv580_0] at ge580_0
                                    have HL580_0 := Aside0.mk (show Kd.R (Kd.int .i64) 3 _ _ _ _ (rd_L1 x4_6 x125_5) from ge580_0)
                                    clear hv580_0 ge580_0
                                    have HX580_0 := Aside0.mk hx580_0
                                    clear hcc580 hce580
                                    have HR580_0 := Aside0.mk hi580_0
                                    have HC580_0 := Aside0.mk hl580_0
                                    clear hi580_0 hl580_0
                                    (try simp only [hl4_4, hl6_4, hl4_5, hl6_5, hl4_6, hl6_6] at p580)
                                    (try simp only [hl4_4, hl6_4, hl4_5, hl6_5, hl4_6, hl6_6] at q580)
                                    (try simp only [hl4_4, hl6_4, hl4_5, hl6_5, hl4_6, hl6_6] at hx580_0)
                                    replace p580 := eq_true p580
                                    replace q580 := eq_true q580
                                    have ea_ := Option.some.inj (hx579_0.symm.trans hx580_0)
                                    injection ea_ with ea_ en_ ec_
                                    subst ea_
                                    subst ec_
                                    clear en_
                                    have p581 : 0 ≤ (x14_6 : Int) := oD
                                    have q581 : x14_6 < ((rd_L1 x4_6 x125_5).length : Int) := oD
                                    obtain ⟨ad581, e581, hx581_0⟩ := Kd.at_int (by repeat (first | (with_reducible exact HR580_0.out) | (with_reducible refine Kd.C_alloc ?_ _) | (with_reducible refine Kd.C_drewN ?_ _) | (with_reducible refine Kd.C_drew ?_) | exact HR580_0.out)) x14_6 p581 q581
                                    cases e581
                                    (try simp only [hl4_4, hl6_4, hl4_5, hl6_5, hl4_6, hl6_6] at p581)
                                    (try simp only [hl4_4, hl6_4, hl4_5, hl6_5, hl4_6, hl6_6] at q581)
                                    (try simp only [hl4_4, hl6_4, hl4_5, hl6_5, hl4_6, hl6_6] at hx581_0)
                                    replace p581 := eq_true p581
                                    replace q581 := eq_true q581
                                    have p582 : 0 ≤ ((x6_2.length : Int) : Int) := oD
                                    have q582 : (x6_2.length : Int) < (x4_6.length : Int) := oD
                                    obtain ⟨ad582, A582_0, c582_0, e582, hx582_0, hl582_0, hi582_0⟩ := at_L1 (Kd.S_reads' HO_4.out).2.2 (x6_2.length : Int) p582 q582
                                    obtain rfl : ad564 = ad582 := (by injection e582)
                                    obtain ⟨ce582, hce582, hMe582, hcc582⟩ := Kd.S_get HO_4.out [] (x6_2.length : Int) p582 (by first | exact q582 | exact oD | (have e_ := (Kd.S_reads' HO_4.out).1; omega))
                                    obtain ⟨ve582_0, rfl, ge582_0⟩ := hMe582
                                    have hv582_0 := hcc582 0 _ rfl
                                    rw [Nat.add_zero, show ((Kd.slice 3 (Kd.int .i64))).sz = 1 from rfl, Nat.mul_one] at hv582_0
                                    replace hv582_0 := Option.some.inj (hv582_0.symm.trans hx582_0)
                                    rw [hv582_0] at ge582_0
                                    have HL582_0 := Aside0.mk (show Kd.R (Kd.int .i64) 3 _ _ _ _ (rd_L1 x4_6 (x6_2.length : Int)) from ge582_0)
                                    clear hv582_0 ge582_0
                                    have HX582_0 := Aside0.mk hx582_0
                                    clear hcc582 hce582
                                    have HR582_0 := Aside0.mk hi582_0
                                    have HC582_0 := Aside0.mk hl582_0
                                    clear hi582_0 hl582_0
                                    (try simp only [Go.IntWalk.toNatUp] at hx582_0)
                                    (try simp only [hl4_4, hl6_4, hl4_5, hl6_5, hl4_6, hl6_6] at p582)
                                    (try simp only [hl4_4, hl6_4, hl4_5, hl6_5, hl4_6, hl6_6] at q582)
                                    (try simp only [hl4_4, hl6_4, hl4_5, hl6_5, hl4_6, hl6_6] at hx582_0)
                                    (try simp only [hl4_4, hl6_4, hl4_5, hl6_5, hl4_6, hl6_6] at p582)
                                    (try simp only [hl4_4, hl6_4, hl4_5, hl6_5, hl4_6, hl6_6] at q582)
                                    (try simp only [hl4_4, hl6_4, hl4_5, hl6_5, hl4_6, hl6_6] at hx582_0)
                                    replace p582 := eq_true p582
                                    replace q582 := eq_true q582
                                    have p583 : 0 ≤ (x14_6 : Int) := oD
                                    have q583 : x14_6 < ((rd_L1 x4_6 (x6_2.length : Int)).length : Int) := oD
                                    obtain ⟨ad583, e583, hx583_0⟩ := Kd.at_int (by repeat (first | (with_reducible exact HR582_0.out) | (with_reducible refine Kd.C_alloc ?_ _) | (with_reducible refine Kd.C_drewN ?_ _) | (with_reducible refine Kd.C_drew ?_) | exact HR582_0.out)) x14_6 p583 q583
                                    cases e583
                                    (try simp only [hl4_4, hl6_4, hl4_5, hl6_5, hl4_6, hl6_6] at p583)
                                    (try simp only [hl4_4, hl6_4, hl4_5, hl6_5, hl4_6, hl6_6] at q583)
                                    (try simp only [hl4_4, hl6_4, hl4_5, hl6_5, hl4_6, hl6_6] at hx583_0)
                                    replace p583 := eq_true p583
                                    replace q583 := eq_true q583
                                    have p77 : 0 ≤ (x14_6 : Int) := oD
                                    have q77 : (x14_6 : Int) < (((rd_L1 x4_6 x125_5).length : Int) : Int) := oD
                                    obtain ⟨go77, co77, eo77, gb77, gl77, cl77, HG77⟩ := Kd.R_form HL579_0.out (by omega)
                                    (first | cases eo77 | (injection eo77 with ea_ en_ ec_; (first | subst ea_ | (injection ea_ with ea_; subst ea_)); subst ec_; clear en_))
                                    have GB77 := Aside0.mk gb77
                                    have GG77 := Aside0.mk HG77
                                    clear gb77 gl77 HG77
                                    (first | simp only [add_plain] at hx581_0 | skip)
                                    obtain ⟨hx77_0, hf77_0⟩ := Kd.R_celln 0 HL579_0.out (x14_6 : Int) p77 q77
                                    (try simp only [hl4_4, hl6_4, hl4_5, hl6_5, hl4_6, hl6_6] at p77)
                                    (try simp only [hl4_4, hl6_4, hl4_5, hl6_5, hl4_6, hl6_6] at q77)
                                    (try simp only [hl4_4, hl6_4, hl4_5, hl6_5, hl4_6, hl6_6] at hx77_0)
                                    replace p77 := eq_true p77
                                    replace q77 := eq_true q77
                                    have hq81 : (x125_5 : Int) < (x4_6.length : Int) := (by have h_ : (x125_5 : Int) < ((x4_6.length : Int) : Int) := oD; first | exact h_ | (have e_ := (Kd.S_reads' HO_4.out).1; omega) | simpa only [List.length_set, List.length_set] using h_)
                                    obtain ⟨oki81, ce81, hcl81, hM81, hcc81, hok81, hbk81⟩ := Kd.S_borrow HO_4.out [] (x125_5 : Int) (oD) hq81
                                    obtain ⟨ve81_0, rfl, ge81_0⟩ := hM81
                                    have hv81 := hcc81 0 _ rfl
                                    rw [Nat.add_zero, show ((Kd.slice 3 (Kd.int .i64))).sz = 1 from rfl, Nat.mul_one] at hv81
                                    replace hv81 := Option.some.inj (hv81.symm.trans HX579_0.out)
                                    subst hv81
                                    clear hcc81 hcl81
                                    replace ge81_0 := (show Kd.R (Kd.int .i64) 3 _ _ _ _ (rd_L1 x4_6 x125_5) from ge81_0)
                                    have HP81 := Kd.R_putg ge81_0 (x14_6 : Int) (Int.tmod (wrap64 ((rd (rd_L1 x4_6 x125_5) x14_6) + (wrap64 ((wrap64 (a0_0 - (rd (rd_L1 x4_5 x125_5) x7_2))) * (rd (rd_L1 x4_6 (x6_2.length : Int)) x14_6))))) a0_0)
                                    rw [← Ny584.out] at HP81
                                    have HS81 := hbk81 HP81.2 (fun k_ e_ => by injection e_ with e_; subst e_; exact ge81_0.1 _ rfl) (x' := y584) (Kd.M_row HP81.1)
                                    rw [← Ny586.out] at HS81
                                    have HQ81 := Aside0.mk HS81
                                    clear HP81 HS81 hbk81 hok81
                                    (try simp only [hl4_4, hl6_4, hl4_5, hl6_5, hl4_6, hl6_6] at HQ81)
                                    refine start_ (n := 30) (S := fun w' => w'.cell? ⟨gb543, 0, none⟩ = some (.int .i64 a0_0) ∧ w'.cell? ⟨gb543, 1, none⟩ = some (.int .i64 a0_1) ∧ w'.cell? ⟨gb543, 2, none⟩ = some (.int .i64 a0_2) ∧ w'.cell? ⟨gb543, 3, none⟩ = some (.slice A0_3 l0_3.length c0_3) ∧ w'.cell? (ad564.add (x125_5).toNat) = some (.slice (some (⟨go77, 0, none⟩ : Addr)) (rd_L1 x4_6 x125_5).length c579_0) ∧ w'.cell? (ad564.add (x125_5).toNat) = some (.slice (some (⟨go77, 0, none⟩ : Addr)) (rd_L1 x4_6 x125_5).length c579_0) ∧ w'.cell? ⟨go77, (x14_6).toNat, none⟩ = some (.int .i64 (rd (rd_L1 x4_6 x125_5) x14_6)) ∧ w'.cell? (ad564.add x6_6.length) = some (.slice (some ad583) (rd_L1 x4_6 (x6_6.length : Int)).length c582_0) ∧ w'.cell? (ad583.add (x14_6).toNat) = some (.int .i64 (rd (rd_L1 x4_6 (x6_6.length : Int)) x14_6))) (ds := [29]) #[false, false, false, false, false, false, false, false, false, false, false, false, false, false, false, false, false, false, false, false, false, false, false, false, false, false, false, false, false, false] kr rfl rfl ⟨(blk_cell BK543.out 0).trans rfl, (blk_cell BK543.out 1).trans rfl, (blk_cell BK543.out 2).trans rfl, (blk_cell BK543.out 3).trans rfl, hx579_0, hx580_0, hx581_0, hx582_0, hx583_0⟩ (fun hHeld => ?_); refine with_tabW impl_reduce.tab29 impl_reduce.bits29 (fun HT_ HW_ => ?_)
                                    generalize wr.drew = w80 at HO_4 HO_6 BK543 BK544 HB GG77 HL579_0 HL580_0 HL582_0 HQ81 HR579_0 HR580_0 HR582_0 HX579_0 HX580_0 HX582_0 hf77_0 hx579_0 hx580_0 hx581_0 hx582_0 hx583_0 hx77_0 hHeld ⊢
                                    refine pA 0 146 (any_of HT_.out kr) ?_
                                    refine pA 1 147 (any_of HT_.out kr) ?_
                                    refine pA 2 148 (any_of HT_.out kr) ?_
                                    refine pA 4 150 (any_of HT_.out kr) ?_
                                    refine pA 5 151 (any_of HT_.out kr) ?_
                                    refine pA 6 152 (any_of HT_.out kr) ?_
                                    refine pA 7 153 (any_of HT_.out kr) ?_
                                    refine pA 9 155 (any_of HT_.out kr) ?_
                                    refine pA 12 158 (any_of HT_.out kr) ?_
                                    refine pA 14 160 (any_of HT_.out kr) ?_
                                    refine pA 16 162 (any_of HT_.out kr) ?_
                                    refine pA 17 163 (any_of HT_.out kr) ?_
                                    refine pA 18 164 (any_of HT_.out kr) ?_
                                    refine pA 20 166 (any_of HT_.out kr) ?_
                                    refine pA 25 171 (any_of HT_.out kr) ?_
                                    refine tA9 3 149 (take_ofW HT_.out HW_.out kr) hHeld ?_
                                    refine tA9 8 154 (take_ofW HT_.out HW_.out kr) hHeld ?_
                                    refine pA 10 156 (any_of HT_.out kr) ?_
                                    refine tA9 11 157 (take_ofW HT_.out HW_.out kr) hHeld ?_
                                    refine tA9 13 159 (take_ofW HT_.out HW_.out kr) hHeld ?_
                                    refine pA 15 161 (any_of HT_.out kr) ?_
                                    refine tA9 19 165 (take_ofW HT_.out HW_.out kr) hHeld ?_
                                    refine pA 21 167 (any_of HT_.out kr) ?_
                                    refine tA9 22 168 (take_ofW HT_.out HW_.out kr) hHeld ?_
                                    refine pA 23 169 (any_of HT_.out kr) ?_
                                    refine pA 24 170 (any_of HT_.out kr) ?_
                                    refine tA9 26 172 (take_ofW HT_.out HW_.out kr) hHeld ?_
                                    refine pA 27 173 (any_of HT_.out kr) ?_
                                    refine pA 28 174 (any_of HT_.out kr) ?_
                                    refine last_ (i := 29) (N := none) #[true, true, true, true, true, true, true, true, true, true, true, true, true, true, true, true, true, true, true, true, true, true, true, true, true, true, true, true, true, true] rfl rfl (one_of HT_.out kr) (by decide) (fun K hK => ?_)
                                    refine skip_ (w1 := ?_) (by rfl) rfl ?_ ?_
                                    rotate_left
                                    ·go_simp
                                     rfl
                                    refine hK.out _ _ ?_
                                    clear hK K
                                    refine done_ (done_of HT_.out kr) ?_
                                    try go_wp2
                                    (try simp only [← hl4_6, ← hl6_6])
                                    go_roundg k6
                                    case measure => have := HK1.out; have := HK2.out; have := HJ26.out; have := HK4.out; have := HK5.out; have := HK6.out; omega
                                    case rel => exact ⟨(y586), (x6_6), (wrap64 (x14_6 + 1)), p7, H', ⟨by have := HK1.out; have := HK2.out; have := HJ26.out; have := HK4.out; have := HK5.out; have := HK6.out; omega⟩, ⟨by (try simp only [hl4_4]); (try simp only [hl6_4]); (try simp only [hl4_5]); (try simp only [hl6_5]); (try simp only [hl4_6]); (try simp only [hl6_6]); (with_reducible repeat (first | apply Kd.S_alloc | apply Kd.S_drewN | apply Kd.S_drew)); exact HQ81.out⟩, ⟨by (try simp only [hl4_4]); (try simp only [hl6_4]); (try simp only [hl4_5]); (try simp only [hl6_5]); (try simp only [hl4_6]); (try simp only [hl6_6]); (with_reducible repeat (first | apply Kd.R_alloc | apply Kd.R_drewN | apply Kd.R_drew)); exact Kd.R_mono (Kd.R_far (p := ⟨go77, (x14_6 : Int).toNat, none⟩) (Kd.R_far1 HO_6.out rfl ((HL579_0.out.1 _ rfl).1)) (fun _ hk => hk.2) (.int .i64 (Int.tmod (wrap64 ((rd (rd_L1 x4_6 x125_5) x14_6) + (wrap64 ((wrap64 (a0_0 - (rd (rd_L1 x4_5 x125_5) x7_2))) * (rd (rd_L1 x4_6 (x6_6.length : Int)) x14_6))))) a0_0))) (fun _ hk => trivial)⟩, ⟨by (try simp only [hl4_4]); (try simp only [hl6_4]); (try simp only [hl4_5]); (try simp only [hl6_5]); (try simp only [hl4_6]); (try simp only [hl6_6]); (with_reducible repeat (first | refine blk_drewN ?_ _ | refine blk_drew ?_ | refine blk_alloc ?_ _)); refine blk_far ?_ (by have h_ := Kd.R_ne HL579_0.out BK543.out (by decide); intro e_; exact h_ (by rw [e_]; rfl)) _; (with_reducible repeat (first | refine blk_drewN ?_ _ | refine blk_drew ?_ | refine blk_alloc ?_ _)); exact BK543.out⟩, ⟨by (try simp only [hl4_4]); (try simp only [hl6_4]); (try simp only [hl4_5]); (try simp only [hl6_5]); (try simp only [hl4_6]); (try simp only [hl6_6]); (with_reducible repeat (first | refine blk_drewN ?_ _ | refine blk_drew ?_ | refine blk_alloc ?_ _)); refine blk_far ?_ (by have h_ := Kd.R_ne HL579_0.out BK544.out (by decide); intro e_; exact h_ (by rw [e_]; rfl)) _; (with_reducible repeat (first | refine blk_drewN ?_ _ | refine blk_drew ?_ | refine blk_alloc ?_ _)); exact BK544.out⟩, ⟨by repeat (first | (with_reducible first | exact HB.out | apply below_alloc | apply pw_below_drewN | apply below_drew1 | refine below_set ?_ GB77.out | refine below_set ?_ GE543.out | refine below_set ?_ GE544.out) | exact HB.out)⟩⟩
                                  ·rw [if_neg c75] at H
                                   exact absurd H (by simp)
                                 ·rw [if_neg c74] at H
                                  exact absurd H (by simp)
                                ·rw [if_neg c73] at H
                                 exact absurd H (by simp)
                               ·rw [if_neg c72] at H
                                exact absurd H (by simp)
                              ·rw [if_neg c71] at H
                               exact absurd H (by simp)
                             ·rw [if_neg c70] at H
                              exact absurd H (by simp)
                            ·rw [if_neg c69] at H
                             exact absurd H (by simp)
                          ·rw [if_neg c65] at H
                           have c65b0 : decide (x14_6 < a0_2) = false := decide_eq_false c65
                           clear c65
                           have H' := Aside0.mk H
                           clear H
                           have hnb83 := NB543_544.out
                           have hnc83 := NB544_543.out
                           obtain ⟨hcz84_0, hcz84_1, hcz84_2, hcz84_3, hfz84_0, hfz84_1, hfz84_2, hfz84_3⟩ := bc4 BK543.out
                           go_wp2
                           (try simp only [← hl4_5, ← hl6_5, ← hl4_6, ← hl6_6])
                           go_roundg k6
                           case measure => have := HK1.out; have := HK2.out; have := HJ26.out; have := HK4.out; have := HK5.out; have := HK6.out; omega
                           case rel => exact ⟨(x4_6), (x6_6), (wrap64 (x125_5 + 1)), p7, H', ⟨by have := HK1.out; have := HK2.out; have := HJ26.out; have := HK4.out; have := HK5.out; have := HK6.out; omega⟩, ⟨by (try simp only [hl4_4]); (try simp only [hl6_4]); (try simp only [hl4_5]); (try simp only [hl6_5]); (try simp only [hl4_6]); (try simp only [hl6_6]); (with_reducible repeat (first | apply Kd.S_alloc | apply Kd.S_drewN | apply Kd.S_drew)); exact HO_4.out⟩, ⟨by (try simp only [hl4_4]); (try simp only [hl6_4]); (try simp only [hl4_5]); (try simp only [hl6_5]); (try simp only [hl4_6]); (try simp only [hl6_6]); (with_reducible repeat (first | apply Kd.R_alloc | apply Kd.R_drewN | apply Kd.R_drew)); exact HO_6.out⟩, ⟨by (try simp only [hl4_4]); (try simp only [hl6_4]); (try simp only [hl4_5]); (try simp only [hl6_5]); (try simp only [hl4_6]); (try simp only [hl6_6]); (with_reducible repeat (first | refine blk_drewN ?_ _ | refine blk_drew ?_ | refine blk_alloc ?_ _)); exact BK543.out⟩, ⟨by (try simp only [hl4_4]); (try simp only [hl6_4]); (try simp only [hl4_5]); (try simp only [hl6_5]); (try simp only [hl4_6]); (try simp only [hl6_6]); (with_reducible repeat (first | refine blk_drewN ?_ _ | refine blk_drew ?_ | refine blk_alloc ?_ _)); exact BK544.out⟩, ⟨pB⟩⟩
                       ·rw [if_neg c64] at H
                        exact absurd H (by simp)
                      ·rw [if_neg c63] at H
                       exact absurd H (by simp)
                     ·rw [if_neg c62] at H
                      exact absurd H (by simp)
                    ·rw [if_neg c61] at H
                     exact absurd H (by simp)
                   ·rw [if_neg c60] at H
                    have c60b0 : decide (x125_5 < (x4_4.length : Int)) = false := decide_eq_false c60
                    have c60b0q := c60b0
                    (try simp only [hl4_4, hl6_4, hl4_5, hl6_5] at c60b0q)
                    clear c60
                    by_cases c85 : x6_5.length < 17592186044416
                    ·rw [if_pos c85] at H
                     have LMc85 := Aside0.mk c85
                     clear c85
                     obtain ⟨y574, hy574⟩ : ∃ y_ : List Int, y_ = (x6_5 ++ [x7_2]) := ⟨_, rfl⟩
                     replace H : (impl_reduce.l1 k5 x4_5 y574 (wrap64 (x7_2 + 1)) a0_0 a0_1 a0_2 l0_3) = some (r1, r2, r3, r4, r5) := by first | (rw [hy574]; with_reducible exact H) | (have H2_ := (Option.bind_some _ _).symm.trans H; rw [hy574]; with_reducible exact H2_) | (have H2_ := (Option.bind_some _ _).symm.trans H; with_reducible exact H2_) | with_reducible exact H | (rw [hy574]; exact H) | exact H
                     have Ny574 := Aside0.mk hy574
                     clear hy574
                     have H' := Aside0.mk H
                     clear H
                     go_wp2_with (first | ((with_reducible refine gate_builtin (b := .append) (xs := #[.tmp 176, .tmp 178]) rfl ?_); at_builtin; refine Kd.R_append (Kd.int .i64) (w0 := w) w.heap.size rfl (.tmp 176) (.tmp 178) 22 3 (.int .i64 0) 8 rfl Try.underlying22 info3 rfl (by decide) (by omega) (.slice Ao30 x6_5.length co30) x6_5 x7_2 [.int .i64 x7_2] (fun _ => True) (fun _ => False) rfl rfl ?aP (fun _ hk => hk.elim) ?aF ?aO ?aB ?aS ?aL ?_; (case aP => exact rfl); (case aB => exact pB); (case aF => exact (fun _ _ => trivial)); (case aO => exact (pR HO_6.out)); (case aS => exact (below_size pB)); (case aL => have := LMc85.out; omega); intro v575 w86 ho hb hg hat; rw [← Ny574.out] at ho; have n0_ := Aside0.mk (Kd.S_after (ok := (fun _ => True)) (by (with_reducible repeat (first | apply Kd.S_alloc | apply Kd.S_drewN | apply Kd.S_drew)); exact Kd.S_mono HO_4.out (fun _ hk => ⟨trivial, hk⟩)) hg hat); have n1_ := Aside0.mk (blk_grown (g := gb543) (o := .cells #[.int .i64 a0_0, .int .i64 a0_1, .int .i64 a0_2, .slice A0_3 l0_3.length c0_3] 32 (0, 0)) (pK BK543.out) hg (Kd.R_ne HO_6.out BK543.out (by decide))); have n2_ := Aside0.mk (blk_grown (g := gb544) (o := .cells #[.int .i64 0, .int .i64 0, .int .i64 0, .slice none 0 0] 32 (0, 0)) (pK BK544.out) hg (Kd.R_ne HO_6.out BK544.out (by decide))); have n3_ := Aside0.mk (hb); have n4_ := Aside0.mk (ho); clear HO_4; clear BK543; clear BK544; clear HB; clear HO_6; have HO_4 := n0_; have BK543 := n1_; have BK544 := n2_; have HB := n3_; have HO576 := n4_; clear n0_ n1_ n2_ n3_ n4_; clear ho hb hg hat))
                     (try simp only [← hl4_4, ← hl6_4, ← hl4_5, ← hl6_5])
                     obtain rfl := Option.some.inj HAo.out
                     go_roundg k5
                     case measure => have := HK1.out; have := HK2.out; have := HJ26.out; have := HK4.out; have := HK5.out; omega
                     case rel => exact ⟨(x4_5), (y574), (wrap64 (x7_2 + 1)), p7, H', ⟨by have := HK1.out; have := HK2.out; have := HJ26.out; have := HK4.out; have := HK5.out; omega⟩, ⟨by (try simp only [hl4_4]); (try simp only [hl6_4]); (try simp only [hl4_5]); (try simp only [hl6_5]); (with_reducible repeat (first | apply Kd.S_alloc | apply Kd.S_drewN | apply Kd.S_drew)); exact Kd.S_mono HO_4.out (fun _ hk => hk.2)⟩, ⟨by (try simp only [hl4_4]); (try simp only [hl6_4]); (try simp only [hl4_5]); (try simp only [hl6_5]); (with_reducible repeat (first | apply Kd.R_alloc | apply Kd.R_drewN | apply Kd.R_drew)); exact HO576.out⟩, ⟨by (try simp only [hl4_4]); (try simp only [hl6_4]); (try simp only [hl4_5]); (try simp only [hl6_5]); (with_reducible repeat (first | refine blk_drewN ?_ _ | refine blk_drew ?_ | refine blk_alloc ?_ _)); exact BK543.out⟩, ⟨by (try simp only [hl4_4]); (try simp only [hl6_4]); (try simp only [hl4_5]); (try simp only [hl6_5]); (with_reducible repeat (first | refine blk_drewN ?_ _ | refine blk_drew ?_ | refine blk_alloc ?_ _)); exact BK544.out⟩, ⟨pB⟩⟩
                    ·rw [if_neg c85] at H
                     exact absurd H (by simp)
             ·rw [if_neg c45] at H
              exact absurd H (by simp)
            ·rw [if_neg c44] at H
             exact absurd H (by simp)
           ·rw [if_neg c43] at H
            exact absurd H (by simp)
          ·rw [if_neg c42] at H
           exact absurd H (by simp)
      ·rw [if_neg c26] at H
       have c26b0 : decide (x7_2 < a0_2) = false := decide_eq_false c26
       clear c26
       obtain ⟨y587, hy587⟩ : ∃ y_ : List Int, y_ = (([] : List Int)) := ⟨_, rfl⟩
       replace H : (if 0 ≤ (x6_2.length : Int) then (if (x6_2.length : Int) ≤ (x4_2.length : Int) then ((some (x4_2.take ((x6_2.length : Int) : Int).toNat : List (List Int))).bind fun y591 => (impl_reduce.l6 k2 x6_2 y591 (y591.length : Int) 0 a0_0 (x6_2.length : Int) a0_2 y587)) else (none)) else (none)) = some (r1, r2, r3, r4, r5) := by first | (rw [hy587]; with_reducible exact H) | (have H2_ := (Option.bind_some _ _).symm.trans H; rw [hy587]; with_reducible exact H2_) | (have H2_ := (Option.bind_some _ _).symm.trans H; with_reducible exact H2_) | with_reducible exact H | (rw [hy587]; exact H) | exact H
       have Ny587 := Aside0.mk hy587
       clear hy587
       by_cases c87 : 0 ≤ (x6_2.length : Int)
       ·rw [if_pos c87] at H
        have c87b0 := eq_true c87
        have c87b1 : decide (0 ≤ (x6_2.length : Int)) = true := decide_eq_true c87
        clear c87
        by_cases c88 : (x6_2.length : Int) ≤ (x4_2.length : Int)
        ·rw [if_pos c88] at H
         have c88b0 := eq_true c88
         have c88b1 : decide ((x6_2.length : Int) ≤ (x4_2.length : Int)) = true := decide_eq_true c88
         clear c88
         obtain ⟨y591, hy591⟩ : ∃ y_ : List (List Int), y_ = (x4_2.take ((x6_2.length : Int) : Int).toNat) := ⟨_, rfl⟩
         replace H : (impl_reduce.l6 k2 x6_2 y591 (y591.length : Int) 0 a0_0 (x6_2.length : Int) a0_2 y587) = some (r1, r2, r3, r4, r5) := by first | (rw [hy591]; with_reducible exact H) | (have H2_ := (Option.bind_some _ _).symm.trans H; rw [hy591]; with_reducible exact H2_) | (have H2_ := (Option.bind_some _ _).symm.trans H; with_reducible exact H2_) | with_reducible exact H | (rw [hy591]; exact H) | exact H
         have Ny591 := Aside0.mk hy591
         clear hy591
         have H' := Aside0.mk H
         clear H
         have hnb89 := NB543_544.out
         have hnc89 := NB544_543.out
         obtain ⟨hcz90_0, hcz90_1, hcz90_2, hcz90_3, hfz90_0, hfz90_1, hfz90_2, hfz90_3⟩ := bc4 BK543.out
         obtain ⟨Ao91, co91, eo91⟩ := Kd.R_slice HO_6.out
         subst eo91
         go_wp2_with (first | ((with_reducible refine gate_dst (N := 186) rfl ?_); refine Kd.R_lit (Kd.int .i64) _ 3 ?hg (N := 186) ?hd (xs := ([] : List Int)) (inner := []) (ok := fun _ => True) (okp := fun _ => True) ?hr ?hp (fun _ hk => hk) trivial (Below.refl _ _) (Nat.le_refl _) (by simp) ?_; (case hd => rfl); (case hg => rfl); (case hr => first | (go_simp; done) | (go_simp; rfl)); (case hp => exact (Reps.none _ _)); intro v588 w92 ho93 hb hg_ hnew_; clear hg_ hnew_; (first | rw [← Ny587.out] at ho93 | (simp only [Int.reduceToNat] at ho93; rw [← Ny587.out] at ho93)); replace HO_4 := Aside0.mk (Kd.S_elder' (by (with_reducible repeat (first | apply Kd.S_alloc | apply Kd.S_drewN | apply Kd.S_drew)); exact HO_4.out) (Kd.R_base ho93) hb); have HO589 := Aside0.mk (Kd.R_lower (Kd.R_new' ho93 (Kd.R_lt (pR HO_6.out))) (below_size pB)); replace HO_6 := Aside0.mk (Kd.R_elder' (pR HO_6.out) (Kd.R_base ho93) hb); replace BK543 := Aside0.mk (bB BK543.out hb); replace BK544 := Aside0.mk (bB BK544.out hb); replace HB := Aside0.mk (below_step pB hb); clear hb ho93; obtain ⟨Ao94, co94, eo94⟩ := Kd.R_slice HO589.out; subst eo94) | ((with_reducible refine gate_dst (N := 15) rfl ?_); refine box_event ?hg (N := 15) ?hd (cs := #[.int .i64 0, .int .i64 0, .int .i64 0, .slice none 0 0]) (t := 32) ?hr ?_; (case hd => rfl); (case hg => rfl); (case hr => first | (go_simp; done) | (go_simp; rfl)); intro gb590 hg w95 hbox hb; replace HO_4 := Aside0.mk (Kd.S_below (by (with_reducible repeat (first | apply Kd.S_alloc | apply Kd.S_drewN | apply Kd.S_drew)); exact HO_4.out) hb); replace HO_6 := Aside0.mk (Kd.R_below (pR HO_6.out) hb); replace HO589 := Aside0.mk (Kd.R_below (pR HO589.out) hb); have BK590 := Aside0.mk (hbox); have GW590 := Aside0.mk (bZ (w := w) hg); have GE590 := Aside0.mk (bZ (w := w) hg); replace HB := Aside0.mk (below_step pB hb); have NB543_590 := Aside0.mk (bL BK543.out hg); have NB590_543 := Aside0.mk (bG BK543.out hg); replace BK543 := Aside0.mk (bB BK543.out hb); have NB544_590 := Aside0.mk (bL BK544.out hg); have NB590_544 := Aside0.mk (bG BK544.out hg); replace BK544 := Aside0.mk (bB BK544.out hb); clear hb hbox hg; have hnb96 := NB590_543.out; have hnc96 := NB543_590.out; have hnb97 := NB590_544.out; have hnc97 := NB544_590.out; obtain ⟨hcz98_0, hcz98_1, hcz98_2, hcz98_3, hfz98_0, hfz98_1, hfz98_2, hfz98_3⟩ := bc4 BK590.out) | ((with_reducible refine gate_store (t := 32) (p := 15) rfl ?_); refine store_event (t := 32) (p := 15) (v := ?vo_w99) (w1 := ((((w95.setCell ⟨gb590, 0, none⟩ (.int .i64 a0_0)).setCell ⟨gb590, 1, none⟩ (.int .i64 (x6_2.length : Int))).setCell ⟨gb590, 2, none⟩ (.int .i64 a0_2)).setCell ⟨gb590, 3, none⟩ (.slice Ao94 y587.length co94))) ?hg ?ho ?hn ?hr ?_; (case ho => rfl); (case hg => rfl); (case hn => rfl); (case hr => first | (go_simp; done) | (go_simp; rfl)); intro w99 hw; have n0_ : Aside0 (Kd.S (Kd.slice 3 (Kd.int .i64)) 22 w99 w.heap.size (fun k_ => some k_ ≠ (.slice Ao91 x6_2.length co91 : Value).ownBlock ∧ some k_ ≠ (.slice Ao94 y587.length co94 : Value).ownBlock) u4 x4_2) := ⟨(by rw [hw]; exact (by (with_reducible repeat (first | apply Kd.S_alloc | apply Kd.S_drewN | apply Kd.S_drew)); exact Kd.S_mono (Kd.S_far (p := ⟨gb590, 3, none⟩) (Kd.S_far (p := ⟨gb590, 2, none⟩) (Kd.S_far (p := ⟨gb590, 1, none⟩) (Kd.S_far (p := ⟨gb590, 0, none⟩) (Kd.S_types HO_4.out BK590.out (by decide)) (fun _ hk => hk.2) (.int .i64 a0_0)) (fun _ hk => hk.2) (.int .i64 (x6_2.length : Int))) (fun _ hk => hk.2) (.int .i64 a0_2)) (fun _ hk => hk.2) (.slice Ao94 y587.length co94)) (fun _ hk => ⟨hk.1.1, hk.1.2⟩)))⟩; have n1_ : Aside0 (Kd.R (Kd.int .i64) 3 w99 w.heap.size (fun k_ => some k_ ≠ (.slice Ao94 y587.length co94 : Value).ownBlock) (.slice Ao91 x6_2.length co91) x6_2) := ⟨(by rw [hw]; exact (by (with_reducible repeat (first | apply Kd.R_alloc | apply Kd.R_drewN | apply Kd.R_drew)); exact Kd.R_mono (Kd.R_far (p := ⟨gb590, 3, none⟩) (Kd.R_far (p := ⟨gb590, 2, none⟩) (Kd.R_far (p := ⟨gb590, 1, none⟩) (Kd.R_far (p := ⟨gb590, 0, none⟩) (Kd.R_types HO_6.out BK590.out (by decide)) (fun _ hk => hk.2) (.int .i64 a0_0)) (fun _ hk => hk.2) (.int .i64 (x6_2.length : Int))) (fun _ hk => hk.2) (.int .i64 a0_2)) (fun _ hk => hk.2) (.slice Ao94 y587.length co94)) (fun _ hk => hk.1.2)))⟩; have n2_ : Aside0 (Kd.R (Kd.int .i64) 3 w99 w.heap.size (fun k_ => some k_ ≠ (.slice Ao91 x6_2.length co91 : Value).ownBlock) (.slice Ao94 y587.length co94) y587) := ⟨(by rw [hw]; exact (by (with_reducible repeat (first | apply Kd.R_alloc | apply Kd.R_drewN | apply Kd.R_drew)); exact Kd.R_mono (Kd.R_far (p := ⟨gb590, 3, none⟩) (Kd.R_far (p := ⟨gb590, 2, none⟩) (Kd.R_far (p := ⟨gb590, 1, none⟩) (Kd.R_far (p := ⟨gb590, 0, none⟩) (Kd.R_types HO589.out BK590.out (by decide)) (fun _ hk => hk.2) (.int .i64 a0_0)) (fun _ hk => hk.2) (.int .i64 (x6_2.length : Int))) (fun _ hk => hk.2) (.int .i64 a0_2)) (fun _ hk => hk.2) (.slice Ao94 y587.length co94)) (fun _ hk => hk.1.2)))⟩; have n3_ : Aside0 (w99.heap[gb543]? = some (.cells #[.int .i64 a0_0, .int .i64 a0_1, .int .i64 a0_2, .slice A0_3 l0_3.length c0_3] 32 (0, 0))) := ⟨(by rw [hw]; exact (by (with_reducible repeat (first | refine blk_drewN ?_ _ | refine blk_drew ?_ | refine blk_alloc ?_ _)); refine blk_far ?_ NB543_590.out _; (with_reducible repeat (first | refine blk_drewN ?_ _ | refine blk_drew ?_ | refine blk_alloc ?_ _)); refine blk_far ?_ NB543_590.out _; (with_reducible repeat (first | refine blk_drewN ?_ _ | refine blk_drew ?_ | refine blk_alloc ?_ _)); refine blk_far ?_ NB543_590.out _; (with_reducible repeat (first | refine blk_drewN ?_ _ | refine blk_drew ?_ | refine blk_alloc ?_ _)); refine blk_far ?_ NB543_590.out _; exact pK BK543.out))⟩; have n4_ : Aside0 (w99.heap[gb544]? = some (.cells #[.int .i64 0, .int .i64 0, .int .i64 0, .slice none 0 0] 32 (0, 0))) := ⟨(by rw [hw]; exact (by (with_reducible repeat (first | refine blk_drewN ?_ _ | refine blk_drew ?_ | refine blk_alloc ?_ _)); refine blk_far ?_ NB544_590.out _; (with_reducible repeat (first | refine blk_drewN ?_ _ | refine blk_drew ?_ | refine blk_alloc ?_ _)); refine blk_far ?_ NB544_590.out _; (with_reducible repeat (first | refine blk_drewN ?_ _ | refine blk_drew ?_ | refine blk_alloc ?_ _)); refine blk_far ?_ NB544_590.out _; (with_reducible repeat (first | refine blk_drewN ?_ _ | refine blk_drew ?_ | refine blk_alloc ?_ _)); refine blk_far ?_ NB544_590.out _; exact pK BK544.out))⟩; have n5_ : Aside0 (w99.heap[gb590]? = some (.cells #[.int .i64 a0_0, .int .i64 (x6_2.length : Int), .int .i64 a0_2, .slice Ao94 y587.length co94] 32 (0, 0))) := ⟨(by rw [hw]; exact (by (with_reducible repeat (first | refine blk_drewN ?_ _ | refine blk_drew ?_ | refine blk_alloc ?_ _)); refine blk_put (cs := #[.int .i64 a0_0, .int .i64 (x6_2.length : Int), .int .i64 a0_2, .slice none 0 0]) ?_ 3 _ rfl; (with_reducible repeat (first | refine blk_drewN ?_ _ | refine blk_drew ?_ | refine blk_alloc ?_ _)); refine blk_put (cs := #[.int .i64 a0_0, .int .i64 (x6_2.length : Int), .int .i64 0, .slice none 0 0]) ?_ 2 _ rfl; (with_reducible repeat (first | refine blk_drewN ?_ _ | refine blk_drew ?_ | refine blk_alloc ?_ _)); refine blk_put (cs := #[.int .i64 a0_0, .int .i64 0, .int .i64 0, .slice none 0 0]) ?_ 1 _ rfl; (with_reducible repeat (first | refine blk_drewN ?_ _ | refine blk_drew ?_ | refine blk_alloc ?_ _)); refine blk_put (cs := #[.int .i64 0, .int .i64 0, .int .i64 0, .slice none 0 0]) ?_ 0 _ rfl; exact pK BK590.out))⟩; have n6_ : Aside0 (Below w.heap.size w w99) := ⟨(by rw [hw]; exact pB)⟩; clear hw; clear HO_4; clear HO_6; clear HO589; clear BK543; clear BK544; clear BK590; clear HB; have HO_4 := n0_; have HO_6 := n1_; have HO589 := n2_; have BK543 := n3_; have BK544 := n4_; have BK590 := n5_; have HB := n6_; clear n0_ n1_ n2_ n3_ n4_ n5_ n6_; obtain ⟨Ao101, co101, eo101⟩ := Kd.S_slice HO_4.out; subst eo101; have q100 : ((x6_2.length : Int) : Int) ≤ ((x4_2.length : Int) : Int) := oD; obtain ⟨i0100, hi0100, _, hsz100, _⟩ := info_parts info22; have hroom100 : x4_2.length ≤ co101 := (Kd.S_reads' HO_4.out).2.1; have hC100 : Kd.C (Kd.slice 3 (Kd.int .i64)) _ Ao101 x4_2.length x4_2 := (Kd.S_reads' HO_4.out).2.2; have hcut100 := cut_to (P := Try.prog) 74 22 .i64 Try.underlying74 hi0100 Ao101 x4_2.length co101 (x6_2.length : Int) (oD) q100 hroom100; have hr100 := Kd.C_take (m := ((x6_2.length : Int) : Int).toNat) hC100 (by omega); have hy100 : y591.length = ((x6_2.length : Int) : Int).toNat := (by rw [Ny591.out, List.length_take]; omega); rw [← Ny591.out] at hr100; rw [← hy100] at hcut100; have HR594 := Aside0.mk hr100; have HC594 := Aside0.mk (show y591.length ≤ co101 from by omega); clear hr100 hC100 hroom100 hi0100 hsz100; have KY100 := Aside0.mk hy100; clear hy100; have KL100 := Aside0.mk (show ((x6_2.length : Int) : Int).toNat ≤ x4_2.length from by omega); replace q100 := eq_true q100))
         go_loopg [193] k2 (fun kq v193 w' => ∃ (x193_3 : Int) (x591003_3 : List Int) (u591003 : Value), v193 = .int .i64 x193_3 ∧ Aside0 (impl_reduce.l6 kq x6_2 y591 (y591.length : Int) x193_3 a0_0 (x6_2.length : Int) a0_2 x591003_3 = some (r1, r2, r3, r4, r5)) ∧ Aside0 (kq ≤ k2) ∧ Aside0 (Kd.R (Kd.int .i64) 3 w' w.heap.size (fun k_ => some k_ ≠ (u591003 : Value).ownBlock) (.slice Ao91 x6_2.length co91) x6_2) ∧ Aside0 (Kd.R (Kd.int .i64) 3 w' w.heap.size (fun k_ => some k_ ≠ ((.slice Ao91 x6_2.length co91) : Value).ownBlock) u591003 x591003_3) ∧ Aside0 (w'.heap[gb543]? = some (.cells #[.int .i64 a0_0, .int .i64 a0_1, .int .i64 a0_2, (.slice A0_3 l0_3.length c0_3)] 32 (0, 0))) ∧ Aside0 (w'.heap[gb544]? = some (.cells #[.int .i64 0, .int .i64 0, .int .i64 0, (.slice none 0 0)] 32 (0, 0))) ∧ Aside0 (w'.heap[gb590]? = some (.cells #[.int .i64 a0_0, .int .i64 (x6_2.length : Int), .int .i64 a0_2, u591003] 32 (0, 0))) ∧ Aside0 (Kd.S (Kd.slice 3 (Kd.int .i64)) 22 w' w.heap.size (fun k_ => k_ ≠ gb590 ∧ some k_ ≠ (u591003 : Value).ownBlock) (.slice Ao101 x4_2.length co101) x4_2) ∧ Aside0 (Below w.heap.size w w'))
         case atStart => exact ⟨(0), (y587), (.slice Ao94 y587.length co94), p7, H', ⟨Nat.le_refl _⟩, ⟨pR HO_6.out⟩, ⟨pR HO589.out⟩, ⟨pK BK543.out⟩, ⟨pK BK544.out⟩, ⟨pK BK590.out⟩, ⟨by (with_reducible repeat (first | apply Kd.S_alloc | apply Kd.S_drewN | apply Kd.S_drew)); exact Kd.S_mono (Kd.S_types HO_4.out BK590.out (by decide)) (fun k_ hk => ⟨hk.2, by first | exact hk.1.2 | exact hk.1 | exact hk.1.1.2⟩)⟩, ⟨pB⟩⟩
         case round =>
          clear H'
          try clear c6
          try clear c26
          try clear c26b0
          try clear c87
          try clear c87b0
          try clear c87b1
          try clear c88
          try clear c88b0
          try clear c88b1
          try clear q100
          try clear hcz90_0
          try clear hcz90_1
          try clear hcz90_2
          try clear hcz90_3
          try clear hcz98_0
          try clear hcz98_1
          try clear hcz98_2
          try clear hcz98_3
          try clear hfz90_0
          try clear hfz90_1
          try clear hfz90_2
          try clear hfz90_3
          try clear hfz98_0
          try clear hfz98_1
          try clear hfz98_2
          try clear hfz98_3
          try clear q100
          obtain ⟨x193_3, x591003_3, u591003, rfl, HA, HK3, HO_6, HO_591003, BK543, BK544, BK590, HSX, HB⟩ := hrel
          cases gk with
          | zero => exact absurd HA.out (by simp [impl_reduce.l6])
          | succ k3 =>
           have H := HA.out
           clear HA
           simp only [impl_reduce.l6] at H
           by_cases c102 : x193_3 < (y591.length : Int)
           ·rw [if_pos c102] at H
            have c102b0 : decide (x193_3 < (y591.length : Int)) = true := decide_eq_true c102
            clear c102
            by_cases c103 : 0 ≤ x193_3
            ·rw [if_pos c103] at H
             have c103b0 : decide (0 ≤ x193_3) = true := decide_eq_true c103
             clear c103
             by_cases c104 : x193_3 < (y591.length : Int)
             ·rw [if_pos c104] at H
              have c104b0 : decide (x193_3 < (y591.length : Int)) = true := decide_eq_true c104
              clear c104
              by_cases c105 : x591003_3.length + (rd_L1 y591 x193_3).length < 17592186044416
              ·rw [if_pos c105] at H
               have LMc105 := Aside0.mk c105
               clear c105
               obtain ⟨y596, hy596⟩ : ∃ y_ : List Int, y_ = (x591003_3 ++ (rd_L1 y591 x193_3)) := ⟨_, rfl⟩
               replace H : (impl_reduce.l6 k3 x6_2 y591 (y591.length : Int) (wrap64 (x193_3 + 1)) a0_0 (x6_2.length : Int) a0_2 y596) = some (r1, r2, r3, r4, r5) := by first | (rw [hy596]; with_reducible exact H) | (have H2_ := (Option.bind_some _ _).symm.trans H; rw [hy596]; with_reducible exact H2_) | (have H2_ := (Option.bind_some _ _).symm.trans H; with_reducible exact H2_) | with_reducible exact H | (rw [hy596]; exact H) | exact H
               have Ny596 := Aside0.mk hy596
               clear hy596
               have H' := Aside0.mk H
               clear H
               have p595 : 0 ≤ (x193_3 : Int) := oD
               have q595 : x193_3 < (y591.length : Int) := oD
               have HSR := Aside0.mk (show Kd.C (Kd.slice 3 (Kd.int .i64)) wr Ao101 y591.length y591 from by have h_ := Kd.C_take (m := ((x6_2.length : Int) : Int).toNat) (Kd.S_reads' HSX.out).2.2 (by have := Ny591.out; have e_ := congrArg List.length this; rw [List.length_take] at e_; first | omega | (have := KL100.out; omega)); rw [← Ny591.out] at h_; have e2_ : y591.length = ((x6_2.length : Int) : Int).toNat := (KY100.out); first | exact h_ | (rw [e2_]; exact h_))
               obtain ⟨ad595, A595_0, c595_0, e595, hx595_0, hl595_0, hi595_0⟩ := at_L1 HSR.out x193_3 p595 q595
               cases e595
               skip
               have HR595_0 := Aside0.mk hi595_0
               have HC595_0 := Aside0.mk hl595_0
               clear hi595_0 hl595_0
               replace p595 := eq_true p595
               replace q595 := eq_true q595
               have hnb106 := NB590_543.out
               have hnc106 := NB543_590.out
               have hnb107 := NB590_544.out
               have hnc107 := NB544_590.out
               obtain ⟨hcz108_0, hcz108_1, hcz108_2, hcz108_3, hfz108_0, hfz108_1, hfz108_2, hfz108_3⟩ := bc4 BK590.out
               go_wp2_with (first | ((with_reducible refine gate_builtin (b := .append) (xs := #[.tmp 198, .tmp 199]) rfl ?_); at_builtin; refine Kd.R_append_rows (Kd.int .i64) (w0 := w) w.heap.size rfl (.tmp 198) (.tmp 199) 22 3 (.int .i64 0) 8 rfl Try.underlying22 info3 rfl (by decide) (by omega) u591003 x591003_3 (rd_L1 y591 x193_3) _ _ _ (fun k_ => some k_ ≠ (.slice Ao91 x6_2.length co91 : Value).ownBlock) (fun _ => False) rfl rfl ?aO ?aR (fun _ _ h => h) (fun _ h => h.elim) ?aF ?aB ?aS ?aL ?_; (case aR => repeat (first | exact HR595_0.out | exact (Kd.C_below HR595_0.out HB.out) | (with_reducible refine Kd.C_alloc ?_ _) | (with_reducible refine Kd.C_drewN ?_ _) | (with_reducible refine Kd.C_drew ?_))); (case aB => exact pB); (case aF => exact (fun k_ hk => Kd.fresh' (Kd.R_lt (pR HO_6.out)) k_ hk)); (case aO => exact (pR HO_591003.out)); (case aS => exact (below_size pB)); (case aL => have := LMc105.out; omega); intro v597 w109 ho hb hg hat; rw [← Ny596.out] at ho; have nS_ := Aside0.mk (Kd.S_after (ok := (fun k_ => k_ ≠ gb590)) (by (with_reducible repeat (first | apply Kd.S_alloc | apply Kd.S_drewN | apply Kd.S_drew)); exact Kd.S_mono HSX.out (fun _ hk => ⟨hk.1, hk.2⟩)) hg hat); have n0_ := Aside0.mk (Kd.R_after (ok := (fun _ => True)) (by (with_reducible repeat (first | apply Kd.R_alloc | apply Kd.R_drewN | apply Kd.R_drew)); exact Kd.R_mono HO_6.out (fun _ hk => ⟨trivial, hk⟩)) hg hat); have n1_ := Aside0.mk (blk_grown (g := gb543) (o := .cells #[.int .i64 a0_0, .int .i64 a0_1, .int .i64 a0_2, .slice A0_3 l0_3.length c0_3] 32 (0, 0)) (pK BK543.out) hg (Kd.R_ne HO_591003.out BK543.out (by decide))); have n2_ := Aside0.mk (blk_grown (g := gb544) (o := .cells #[.int .i64 0, .int .i64 0, .int .i64 0, .slice none 0 0] 32 (0, 0)) (pK BK544.out) hg (Kd.R_ne HO_591003.out BK544.out (by decide))); have n3_ := Aside0.mk (blk_grown (g := gb590) (o := .cells #[.int .i64 a0_0, .int .i64 (x6_2.length : Int), .int .i64 a0_2, u591003] 32 (0, 0)) (pK BK590.out) hg (Kd.R_ne HO_591003.out BK590.out (by decide))); have n4_ := Aside0.mk (hb); have n5_ := Aside0.mk (ho); clear HO_6; clear BK543; clear BK544; clear BK590; clear HB; clear HO_591003; have HO_6 := n0_; have BK543 := n1_; have BK544 := n2_; have BK590 := n3_; have HB := n4_; have HO598 := n5_; clear n0_ n1_ n2_ n3_ n4_ n5_; clear HSX; have HSX := nS_; clear nS_; clear ho hb hg hat; obtain ⟨Ao110, co110, eo110⟩ := Kd.R_slice HO598.out; subst eo110; obtain ⟨hcz111_0, hcz111_1, hcz111_2, hcz111_3, hfz111_0, hfz111_1, hfz111_2, hfz111_3⟩ := bc4 BK590.out))
               go_roundg k3
               case measure => have := HK1.out; have := HK2.out; have := HK3.out; omega
               case rel => exact ⟨(wrap64 (x193_3 + 1)), (y596), (.slice Ao110 y596.length co110), p7, H', ⟨by have := HK1.out; have := HK2.out; have := HK3.out; omega⟩, ⟨by (with_reducible repeat (first | apply Kd.R_alloc | apply Kd.R_drewN | apply Kd.R_drew)); exact Kd.R_mono (Kd.R_far (p := ⟨gb590, 3, none⟩) (Kd.R_types HO_6.out BK590.out (by decide)) (fun _ hk => hk.2) (.slice Ao110 y596.length co110)) (fun _ hk => hk.1.2)⟩, ⟨by (with_reducible repeat (first | apply Kd.R_alloc | apply Kd.R_drewN | apply Kd.R_drew)); exact Kd.R_mono (Kd.R_far (p := ⟨gb590, 3, none⟩) (Kd.R_types HO598.out BK590.out (by decide)) (fun _ hk => hk.2) (.slice Ao110 y596.length co110)) (fun _ hk => hk.1)⟩, ⟨by (with_reducible repeat (first | refine blk_drewN ?_ _ | refine blk_drew ?_ | refine blk_alloc ?_ _)); refine blk_far ?_ NB543_590.out _; (with_reducible repeat (first | refine blk_drewN ?_ _ | refine blk_drew ?_ | refine blk_alloc ?_ _)); exact BK543.out⟩, ⟨by (with_reducible repeat (first | refine blk_drewN ?_ _ | refine blk_drew ?_ | refine blk_alloc ?_ _)); refine blk_far ?_ NB544_590.out _; (with_reducible repeat (first | refine blk_drewN ?_ _ | refine blk_drew ?_ | refine blk_alloc ?_ _)); exact BK544.out⟩, ⟨by (with_reducible repeat (first | refine blk_drewN ?_ _ | refine blk_drew ?_ | refine blk_alloc ?_ _)); refine blk_put (cs := #[.int .i64 a0_0, .int .i64 (x6_2.length : Int), .int .i64 a0_2, u591003]) ?_ 3 _ rfl; (with_reducible repeat (first | refine blk_drewN ?_ _ | refine blk_drew ?_ | refine blk_alloc ?_ _)); exact BK590.out⟩, ⟨by (with_reducible repeat (first | apply Kd.S_alloc | apply Kd.S_drewN | apply Kd.S_drew)); exact Kd.S_far (p := ⟨gb590, 3, none⟩) HSX.out (fun _ hk => hk.1) _⟩, ⟨pB⟩⟩
              ·rw [if_neg c105] at H
               exact absurd H (by simp)
             ·rw [if_neg c104] at H
              exact absurd H (by simp)
            ·rw [if_neg c103] at H
             exact absurd H (by simp)
           ·rw [if_neg c102] at H
            have c102b0 : decide (x193_3 < (y591.length : Int)) = false := decide_eq_false c102
            clear c102
            simp only [Option.some.injEq, Prod.mk.injEq] at H
            obtain ⟨rfl, rfl, rfl, rfl, rfl⟩ := H
            have hnb112 := NB590_543.out
            have hnc112 := NB543_590.out
            have hnb113 := NB590_544.out
            have hnc113 := NB544_590.out
            obtain ⟨hcz114_0, hcz114_1, hcz114_2, hcz114_3, hfz114_0, hfz114_1, hfz114_2, hfz114_3⟩ := bc4 BK590.out
            have hnb115 := NB544_543.out
            have hnc115 := NB543_544.out
            obtain ⟨hcz116_0, hcz116_1, hcz116_2, hcz116_3, hfz116_0, hfz116_1, hfz116_2, hfz116_3⟩ := bc4 BK544.out
            obtain ⟨Ao117, co117, eo117⟩ := Kd.R_slice HO_591003.out
            subst eo117
            go_wp2
            refine bodyPost_ret (results_ct rfl _ _ gb544 32 #[.int .i64 a0_0, .int .i64 (x6_2.length : Int), .int .i64 a0_2, .slice Ao117 x591003_3.length co117] (0, 0) _ rfl (by (with_reducible repeat (first | refine blk_drewN ?_ _ | refine blk_drew ?_ | refine blk_alloc ?_ _)); refine blk_put (cs := #[.int .i64 a0_0, .int .i64 (x6_2.length : Int), .int .i64 a0_2, .slice none 0 0]) ?_ 3 _ rfl; (with_reducible repeat (first | refine blk_drewN ?_ _ | refine blk_drew ?_ | refine blk_alloc ?_ _)); refine blk_put (cs := #[.int .i64 a0_0, .int .i64 (x6_2.length : Int), .int .i64 0, .slice none 0 0]) ?_ 2 _ rfl; (with_reducible repeat (first | refine blk_drewN ?_ _ | refine blk_drew ?_ | refine blk_alloc ?_ _)); refine blk_put (cs := #[.int .i64 a0_0, .int .i64 0, .int .i64 0, .slice none 0 0]) ?_ 1 _ rfl; (with_reducible repeat (first | refine blk_drewN ?_ _ | refine blk_drew ?_ | refine blk_alloc ?_ _)); refine blk_put (cs := #[.int .i64 0, .int .i64 0, .int .i64 0, .slice none 0 0]) ?_ 0 _ rfl; exact pK BK544.out) Try.underlying32 rfl kr) rfl ?_
            exact ⟨_, _, p8, by (with_reducible repeat (first | apply Kd.R_alloc | apply Kd.R_drewN | apply Kd.R_drew)); exact Kd.R_mono (Kd.R_far (p := ⟨gb544, 3, none⟩) (Kd.R_far (p := ⟨gb544, 2, none⟩) (Kd.R_far (p := ⟨gb544, 1, none⟩) (Kd.R_far (p := ⟨gb544, 0, none⟩) (Kd.R_types HO_591003.out BK544.out (by decide)) (fun _ hk => hk.2) (.int .i64 a0_0)) (fun _ hk => hk.2) (.int .i64 (x6_2.length : Int))) (fun _ hk => hk.2) (.int .i64 a0_2)) (fun _ hk => hk.2) (.slice Ao117 x591003_3.length co117)) (fun _ hk => hk.1), by (with_reducible repeat (first | apply Kd.R_alloc | apply Kd.R_drewN | apply Kd.R_drew)); exact Kd.R_mono (Kd.R_far (p := ⟨gb544, 3, none⟩) (Kd.R_far (p := ⟨gb544, 2, none⟩) (Kd.R_far (p := ⟨gb544, 1, none⟩) (Kd.R_far (p := ⟨gb544, 0, none⟩) (Kd.R_types HO_6.out BK544.out (by decide)) (fun _ hk => hk.2) (.int .i64 a0_0)) (fun _ hk => hk.2) (.int .i64 (x6_2.length : Int))) (fun _ hk => hk.2) (.int .i64 a0_2)) (fun _ hk => hk.2) (.slice Ao117 x591003_3.length co117)) (fun _ hk => hk.1), pB⟩
        ·rw [if_neg c88] at H
         exact absurd H (by simp)
       ·rw [if_neg c87] at H
        exact absurd H (by simp)
end Go.Proofs.Ytbhckhblonkajaa.Q
