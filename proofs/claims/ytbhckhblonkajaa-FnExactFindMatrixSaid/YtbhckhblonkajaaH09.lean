/- Part of a proof: contracts and lemmas that the row's text uses; joined by a program. -/
import Derived.Test.YtbhckhblonkajaaH04
import Derived.Test.YtbhckhblonkajaaH08
set_option linter.unusedVariables false
set_option linter.unusedSimpArgs false
namespace Go.Proofs.Ytbhckhblonkajaa.Q
open Go.RowKit Go.Proofs.YtbhckhblonkajaaW.PrintWords Go.Proofs.YtbhckhblonkajaaW.PrintLast Go.Proofs.YtbhckhblonkajaaW.PrintMore
attribute [local go_sem] max2_int min2_int max_two min_two max_three min_three max_four min_four
mutual
def impl_reduce.l0 : Nat → List (List Int) → Int → Int → Int → Int → List Int → Option (Int × Int × Int × List Int × List Int)
 | 0, _, _, _, _, _, _ => none
 | k + 1, x4, x5, xB, xD, xA, xC => if x5 < xD then ((some (([] : List Int) : List Int)).bind fun yN => (if 0 ≤ (wrap64 (x5 * xA)) then (if (wrap64 (x5 * xA)) ≤ (wrap64 ((wrap64 (x5 + 1)) * xA)) then (if (wrap64 ((wrap64 (x5 + 1)) * xA)) ≤ (xC.length : Int) then (if yN.length + ((xC.take ((wrap64 ((wrap64 (x5 + 1)) * xA)) : Int).toNat).drop ((wrap64 (x5 * xA)) : Int).toNat).length < 17592186044416 then (if x4.length < 5864062014805 then (impl_reduce.l0 k (x4 ++ [(yN ++ ((xC.take ((wrap64 ((wrap64 (x5 + 1)) * xA)) : Int).toNat).drop ((wrap64 (x5 * xA)) : Int).toNat))]) (wrap64 (x5 + 1)) xB xD xA xC) else (none)) else (none)) else (none)) else (none)) else (none))) else (impl_reduce.l1 k x4 (([] : List Int)) 0 xB xD xA xC)
def impl_reduce.l1 : Nat → List (List Int) → List Int → Int → Int → Int → Int → List Int → Option (Int × Int × Int × List Int × List Int)
 | 0, _, _, _, _, _, _, _ => none
 | k + 1, x4, x6, x7, xB, xD, xA, xC => if x7 < xA then (impl_reduce.l2 k x4 x6 x7 (x6.length : Int) (x6.length : Int) xB xD xA xC) else (if 0 ≤ (x6.length : Int) then (if (x6.length : Int) ≤ (x4.length : Int) then ((some (x4.take ((x6.length : Int) : Int).toNat : List (List Int))).bind fun yO => (impl_reduce.l6 k x6 yO (yO.length : Int) 0 xB (x6.length : Int) xA (([] : List Int)))) else (none)) else (none))
def impl_reduce.j3 : Nat → List (List Int) → List Int → Int → Int → Int → Int → Int → Int → List Int → Option (Int × Int × Int × List Int × List Int)
 | 0, _, _, _, _, _, _, _, _, _ => none
 | k + 1, x4, x6, x7, x8, x9, xB, xD, xA, xC => if x9 ≥ (x4.length : Int) then (impl_reduce.l1 k x4 x6 (wrap64 (x7 + 1)) xB xD xA xC) else ((swapRows.f x4 x8 x9).bind fun tJ => (if 0 ≤ x8 then (if x8 < (x4.length : Int) then (if 0 ≤ x7 then (if x7 < ((rd_L1 tJ x8).length : Int) then ((impl_InverseIn.f k xB (rd (rd_L1 tJ x8) x7)).bind fun tU => (impl_reduce.l3 k tJ x6 x7 x8 tU ((rd_L1 tJ x8).length : Int) 0 xB xD xA xC)) else (none)) else (none)) else (none)) else (none)))
def impl_reduce.l3 : Nat → List (List Int) → List Int → Int → Int → Int → Int → Int → Int → Int → Int → List Int → Option (Int × Int × Int × List Int × List Int)
 | 0, _, _, _, _, _, _, _, _, _, _, _ => none
 | k + 1, x4, x6, x7, x8, x10, xP, xF, xB, xD, xA, xC => if xF < xP then (if 0 ≤ x8 then (if x8 < (x4.length : Int) then (if 0 ≤ xF then (if xF < ((rd_L1 x4 x8).length : Int) then (if xB = 0 then (none) else (impl_reduce.l3 k (x4.set (x8 : Int).toNat ((rd_L1 x4 x8).set (xF : Int).toNat (Int.tmod (wrap64 ((rd (rd_L1 x4 x8) xF) * x10)) xB))) x6 x7 x8 x10 xP (wrap64 (xF + 1)) xB xD xA xC)) else (none)) else (none)) else (none)) else (none)) else (impl_reduce.l4 k x4 x6 x7 x8 (x4.length : Int) 0 xB xD xA xC)
def impl_reduce.l4 : Nat → List (List Int) → List Int → Int → Int → Int → Int → Int → Int → Int → List Int → Option (Int × Int × Int × List Int × List Int)
 | 0, _, _, _, _, _, _, _, _, _, _ => none
 | k + 1, x4, x6, x7, x8, xG, xE, xB, xD, xA, xC => if xE < xG then (if 0 ≤ xE then (if xE < (x4.length : Int) then (if 0 ≤ x7 then (if x7 < ((rd_L1 x4 xE).length : Int) then (impl_reduce.l5 k x4 x6 x7 x8 xE (rd (rd_L1 x4 xE) x7) 0 xG xE xB xD xA xC) else (none)) else (none)) else (none)) else (none)) else (if x6.length < 17592186044416 then (impl_reduce.l1 k x4 (x6 ++ [x7]) (wrap64 (x7 + 1)) xB xD xA xC) else (none))
def impl_reduce.l5 : Nat → List (List Int) → List Int → Int → Int → Int → Int → Int → Int → Int → Int → Int → Int → List Int → Option (Int × Int × Int × List Int × List Int)
 | 0, _, _, _, _, _, _, _, _, _, _, _, _, _ => none
 | k + 1, x4, x6, x7, x8, x12, x13, x14, xG, xE, xB, xD, xA, xC => if x14 < xA then (if x12 = x8 then (impl_reduce.l4 k x4 x6 x7 x8 xG (wrap64 (xE + 1)) xB xD xA xC) else (if 0 ≤ x12 then (if x12 < (x4.length : Int) then (if 0 ≤ x14 then (if x14 < ((rd_L1 x4 x12).length : Int) then (if 0 ≤ x8 then (if x8 < (x4.length : Int) then (if x14 < ((rd_L1 x4 x8).length : Int) then (if xB = 0 then (none) else (impl_reduce.l5 k (x4.set (x12 : Int).toNat ((rd_L1 x4 x12).set (x14 : Int).toNat (Int.tmod (wrap64 ((rd (rd_L1 x4 x12) x14) + (wrap64 ((wrap64 (xB - x13)) * (rd (rd_L1 x4 x8) x14))))) xB))) x6 x7 x8 x12 x13 (wrap64 (x14 + 1)) xG xE xB xD xA xC)) else (none)) else (none)) else (none)) else (none)) else (none)) else (none)) else (none))) else (impl_reduce.l4 k x4 x6 x7 x8 xG (wrap64 (xE + 1)) xB xD xA xC)
def impl_reduce.l2 : Nat → List (List Int) → List Int → Int → Int → Int → Int → Int → Int → List Int → Option (Int × Int × Int × List Int × List Int)
 | 0, _, _, _, _, _, _, _, _, _ => none
 | k + 1, x4, x6, x7, x8, x9, xB, xD, xA, xC => if x9 < (x4.length : Int) then (if 0 ≤ x9 then (if 0 ≤ x7 then (if x7 < ((rd_L1 x4 x9).length : Int) then (if (rd (rd_L1 x4 x9) x7) = 0 then (impl_reduce.l2 k x4 x6 x7 x8 (wrap64 (x9 + 1)) xB xD xA xC) else (impl_reduce.j3 k x4 x6 x7 x8 x9 xB xD xA xC)) else (none)) else (none)) else (none)) else (impl_reduce.j3 k x4 x6 x7 x8 x9 xB xD xA xC)
def impl_reduce.l6 : Nat → List Int → List (List Int) → Int → Int → Int → Int → Int → List Int → Option (Int × Int × Int × List Int × List Int)
 | 0, _, _, _, _, _, _, _, _ => none
 | k + 1, x6, xL, xQ, xI, xR, xS, xT, xM => if xI < xQ then (if 0 ≤ xI then (if xI < (xL.length : Int) then (if xM.length + (rd_L1 xL xI).length < 17592186044416 then (impl_reduce.l6 k x6 xL xQ (wrap64 (xI + 1)) xR xS xT (xM ++ (rd_L1 xL xI))) else (none)) else (none)) else (none)) else (some (xR, xS, xT, xM, x6))
end
def impl_reduce.f (k : Nat) (a0_0 : Int) (a0_1 : Int) (a0_2 : Int) (l0_3 : List Int) : Option (Int × Int × Int × List Int × List Int) := impl_reduce.l0 k (([] : List (List Int))) 0 a0_0 a0_1 a0_2 l0_3
def impl_reduce.T16 : Bool × List (List Nat × List Nat) := (true, [([], []), ([0], [0]), ([], []), ([], []), ([2, 3], [2, 3]), ([4], [4]), ([], []), ([5, 6], [5, 6]), ([7], [7]), ([1, 8], [1, 8]), ([9, 9, 0, 1, 2, 3, 4, 5, 6, 7, 8, 9], [9])])
def impl_reduce.B16 : List Nat := [0, 1, 0, 0, 12, 28, 0, 124, 252, 511, 1023]
theorem impl_reduce.tab16 : rtab .any (opsOf Try.f77 16) = impl_reduce.T16 := by kernel_rfl
theorem impl_reduce.bits16 : waitsOk impl_reduce.T16.2 impl_reduce.B16 = true := by kernel_rfl
def impl_reduce.T20 : Bool × List (List Nat × List Nat) := (true, [([], []), ([], []), ([0, 1], [0, 1]), ([2], [2]), ([], []), ([], []), ([], []), ([5, 6], [5, 6]), ([7], [7]), ([], []), ([8, 9], [8, 9]), ([10], [10]), ([], []), ([11, 12], [11, 12]), ([], []), ([14], [14]), ([13, 15], [13, 15]), ([3, 4, 0, 1, 2, 3, 4, 5, 6, 7, 8, 9, 10, 11, 12, 13, 14, 15, 16], [3, 4]), ([17, 16, 0, 1, 2, 3, 4, 5, 6, 7, 8, 9, 10, 11, 12, 13, 14, 15, 16], [16, 17])])
def impl_reduce.B20 : List Nat := [0, 0, 3, 7, 0, 0, 0, 96, 224, 0, 992, 2016, 0, 8160, 0, 16384, 65504, 131071, 262143]
theorem impl_reduce.tab20 : rtab .any (opsOf Try.f77 20) = impl_reduce.T20 := by kernel_rfl
theorem impl_reduce.bits20 : waitsOk impl_reduce.T20.2 impl_reduce.B20 = true := by kernel_rfl
def impl_reduce.T29 : Bool × List (List Nat × List Nat) := (true, [([], []), ([], []), ([0, 1], [0, 1]), ([2], [2]), ([], []), ([], []), ([], []), ([5, 6], [5, 6]), ([7], [7]), ([], []), ([8, 9], [8, 9]), ([10], [10]), ([], []), ([12], [12]), ([], []), ([13, 14], [13, 14]), ([], []), ([], []), ([16, 17], [16, 17]), ([18], [18]), ([], []), ([19, 20], [19, 20]), ([21], [21]), ([15, 22], [15, 22]), ([11, 23], [11, 23]), ([], []), ([25], [25]), ([24, 26], [24, 26]), ([3, 4, 0, 1, 2, 3, 4, 5, 6, 7, 8, 9, 10, 11, 12, 13, 14, 15, 16, 17, 18, 19, 20, 21, 22, 23, 24, 25, 26, 27], [3, 4]), ([28, 27, 0, 1, 2, 3, 4, 5, 6, 7, 8, 9, 10, 11, 12, 13, 14, 15, 16, 17, 18, 19, 20, 21, 22, 23, 24, 25, 26, 27], [27, 28])])
def impl_reduce.B29 : List Nat := [0, 0, 3, 7, 0, 0, 0, 96, 224, 0, 992, 2016, 0, 4096, 0, 28672, 0, 0, 196608, 458752, 0, 2031616, 4128768, 8384512, 16777184, 0, 33554432, 134217696, 268435455, 536870911]
theorem impl_reduce.tab29 : rtab .any (opsOf Try.f77 29) = impl_reduce.T29 := by kernel_rfl
theorem impl_reduce.bits29 : waitsOk impl_reduce.T29.2 impl_reduce.B29 = true := by kernel_rfl
set_option maxHeartbeats 8000000 in
set_option maxRecDepth 100000 in
theorem impl_reduce.calls (k : Nat) (a0_0 : Int) (a0_1 : Int) (a0_2 : Int) (A0_3 : Option Addr) (c0_3 : Nat) (l0_3 : List Int) (r1 : Int) (r2 : Int) (r3 : Int) (r4 : List Int) (r5 : List Int) (w : World) (hr0_3 : Kd.C (Kd.int .i64) w A0_3 l0_3.length l0_3) (hc0_3 : l0_3.length ≤ c0_3) (h : impl_reduce.f k a0_0 a0_1 a0_2 l0_3 = some (r1, r2, r3, r4, r5)) :
  Calls Try.prog 77 #[.agg #[.int .i64 a0_0, .int .i64 a0_1, .int .i64 a0_2, .slice A0_3 l0_3.length c0_3]] w fun e w' => ∃ v3_ v4_ : Value, e = .returned (.tuple #[.agg #[.int .i64 r1, .int .i64 r2, .int .i64 r3, v3_], v4_]) ∧ Kd.R (Kd.int .i64) 3 w' w.heap.size (fun k_ => some k_ ≠ (v4_ : Value).ownBlock) v3_ r4 ∧ Kd.R (Kd.int .i64) 3 w' w.heap.size (fun k_ => some k_ ≠ (v3_ : Value).ownBlock) v4_ r5 ∧ Below w.heap.size w w' := by
 have hu32 := Try.underlying32
 have HR0_3 := Aside0.mk hr0_3
 have HC0_3 := Aside0.mk hc0_3
 clear hr0_3 hc0_3
 have HB := Aside0.mk (Below.refl w.heap.size w)
 have H : (impl_reduce.l0 k (([] : List (List Int))) 0 a0_0 a0_1 a0_2 l0_3) = some (r1, r2, r3, r4, r5) := h
 clear h
 obtain ⟨yAl, hyAl⟩ : ∃ y_ : List (List Int), y_ = (([] : List (List Int))) := ⟨_, rfl⟩
 replace H : (impl_reduce.l0 k yAl 0 a0_0 a0_1 a0_2 l0_3) = some (r1, r2, r3, r4, r5) := yR hyAl H
 have NyAl := Aside0.mk hyAl
 clear hyAl
 have H' := Aside0.mk H
 clear H
 go_enter Try.func77, Try.ntmps77
 go_wp2_with (first | (refine bE 1 #[.int .i64 a0_0, .int .i64 a0_1, .int .i64 a0_2, .slice A0_3 l0_3.length c0_3] 32 ?_; intro gbA hg w2 hbox hb; have BKA := Aside0.mk hbox; have GWA := aZ w hg; have GEA := aZ w hg; replace HB := aH hb; clear hb hbox hg) | (refine bE 2 #[.int .i64 0, .int .i64 0, .int .i64 0, .slice none 0 0] 32 ?_; intro gbB hg w3 hbox hb; have BKB := Aside0.mk hbox; have GWB := aZ w hg; have GEB := aZ w hg; replace HB := aH hb; have NBA_B := aL BKA hg; have NBB_A := aG BKA hg; replace BKA := aB BKA hb; clear hb hbox hg) | ((with_reducible refine gate_dst (N := 18) rfl ?_); refine Kd.S_lit (Kd.slice 3 (Kd.int .i64)) _ 22 ?hg (N := 18) ?hd (xs := ([] : List (List Int))) (inner := []) (ok := fun _ => True) (okp := fun _ => True) ?hr ?hp (fun _ hk => hk) trivial (Below.refl _ _) (Nat.le_refl _) (by simp) ?_; (case hd => rfl); (case hg => rfl); (case hr => first | (go_simp; done) | (go_simp; rfl)); (case hp => exact (Reps.none _ _)); intro vBw w4 ho5 hb hg_ hnew_; clear hg_ hnew_; (first | rw [← NyAl.out] at ho5 | (simp only [Int.reduceToNat] at ho5; rw [← NyAl.out] at ho5)); have HOBl := Aside0.mk (Kd.S_lower ho5 (below_size pB)); replace BKA := aB BKA hb; replace BKB := aB BKB hb; replace HB := aH hb; clear hb ho5))
 go_loopg [4, 5] k (fun kq v4 v5 w' => ∃ (x4_1 : List (List Int)) (x5_1 : Int), v5 = .int .i64 x5_1 ∧ Aside0 (impl_reduce.l0 kq x4_1 x5_1 a0_0 a0_1 a0_2 l0_3 = some (r1, r2, r3, r4, r5)) ∧ Aside0 (kq ≤ k) ∧ Aside0 (Kd.S (Kd.slice 3 (Kd.int .i64)) 22 w' w.heap.size (fun _ => True) v4 x4_1) ∧ Aside0 (w'.heap[gbA]? = some (.cells #[.int .i64 a0_0, .int .i64 a0_1, .int .i64 a0_2, (.slice A0_3 l0_3.length c0_3)] 32 (0, 0))) ∧ Aside0 (w'.heap[gbB]? = some (.cells #[.int .i64 0, .int .i64 0, .int .i64 0, (.slice none 0 0)] 32 (0, 0))) ∧ Aside0 (Below w.heap.size w w'))
 case atStart => exact ⟨(yAl), (0), p7, H', ⟨Nat.le_refl _⟩, ⟨by (with_reducible repeat (first | apply Kd.S_alloc | apply Kd.S_drewN | apply Kd.S_drew)); exact HOBl.out⟩, ⟨pK BKA.out⟩, ⟨pK BKB.out⟩, ⟨pB⟩⟩
 case round =>
  clear H'
  obtain ⟨x4_1, x5_1, rfl, HA, HK1, HO_4, BKA, BKB, HB⟩ := hrel
  cases gk with
  | zero => exact absurd HA.out (by simp [impl_reduce.l0])
  | succ k1 =>
   have H := HA.out
   clear HA
   simp only [impl_reduce.l0] at H
   by_cases c6 : x5_1 < a0_1
   ·rw [if_pos c6] at H
    have c6b0 : decide (x5_1 < a0_1) = true := decide_eq_true c6
    clear c6
    obtain ⟨yAi, hyAi⟩ : ∃ y_ : List Int, y_ = (([] : List Int)) := ⟨_, rfl⟩
    replace H : (if 0 ≤ (wrap64 (x5_1 * a0_2)) then (if (wrap64 (x5_1 * a0_2)) ≤ (wrap64 ((wrap64 (x5_1 + 1)) * a0_2)) then (if (wrap64 ((wrap64 (x5_1 + 1)) * a0_2)) ≤ (l0_3.length : Int) then (if yAi.length + ((l0_3.take ((wrap64 ((wrap64 (x5_1 + 1)) * a0_2)) : Int).toNat).drop ((wrap64 (x5_1 * a0_2)) : Int).toNat).length < 17592186044416 then (if x4_1.length < 5864062014805 then (impl_reduce.l0 k1 (x4_1 ++ [(yAi ++ ((l0_3.take ((wrap64 ((wrap64 (x5_1 + 1)) * a0_2)) : Int).toNat).drop ((wrap64 (x5_1 * a0_2)) : Int).toNat))]) (wrap64 (x5_1 + 1)) a0_0 a0_1 a0_2 l0_3) else (none)) else (none)) else (none)) else (none)) else (none)) = some (r1, r2, r3, r4, r5) := yR hyAi H
    have NyAi := Aside0.mk hyAi
    clear hyAi
    obtain ⟨ji7, hji7⟩ : ∃ j_ : Int, (wrap64 (x5_1 * a0_2)) = j_ := ⟨_, rfl⟩
    replace H : (if 0 ≤ (ji7) then (if (ji7) ≤ (wrap64 ((wrap64 (x5_1 + 1)) * a0_2)) then (if (wrap64 ((wrap64 (x5_1 + 1)) * a0_2)) ≤ (l0_3.length : Int) then (if yAi.length + ((l0_3.take ((wrap64 ((wrap64 (x5_1 + 1)) * a0_2)) : Int).toNat).drop ((ji7) : Int).toNat).length < 17592186044416 then (if x4_1.length < 5864062014805 then (impl_reduce.l0 k1 (x4_1 ++ [(yAi ++ ((l0_3.take ((wrap64 ((wrap64 (x5_1 + 1)) * a0_2)) : Int).toNat).drop ((ji7) : Int).toNat))]) (wrap64 (x5_1 + 1)) a0_0 a0_1 a0_2 l0_3) else (none)) else (none)) else (none)) else (none)) else (none)) = some (r1, r2, r3, r4, r5) := jR hji7 H
    have hji7w : (IntKind.i64.wrap (x5_1 * a0_2)) = ji7 := (i64_w _).trans hji7
    by_cases c8 : 0 ≤ (ji7)
    ·rw [if_pos c8] at H
     have c8b0 := eq_true c8
     have c8b1 : decide (0 ≤ (ji7)) = true := decide_eq_true c8
     clear c8
     by_cases c9 : (ji7) ≤ (wrap64 ((wrap64 (x5_1 + 1)) * a0_2))
     ·rw [if_pos c9] at H
      have c9b0 := eq_true c9
      have c9b1 : decide ((ji7) ≤ (wrap64 ((wrap64 (x5_1 + 1)) * a0_2))) = true := decide_eq_true c9
      by_cases c10 : (wrap64 ((wrap64 (x5_1 + 1)) * a0_2)) ≤ (l0_3.length : Int)
      ·rw [if_pos c10] at H
       have c10b0 := eq_true c10
       have c10b1 : decide ((wrap64 ((wrap64 (x5_1 + 1)) * a0_2)) ≤ (l0_3.length : Int)) = true := decide_eq_true c10
       by_cases c11 : yAi.length + ((l0_3.take ((wrap64 ((wrap64 (x5_1 + 1)) * a0_2)) : Int).toNat).drop ((ji7) : Int).toNat).length < 17592186044416
       ·rw [if_pos c11] at H
        have LMc11 := Aside0.mk c11
        clear c11
        obtain ⟨yAj, hyAj⟩ : ∃ y_ : List Int, y_ = (yAi ++ ((l0_3.take ((wrap64 ((wrap64 (x5_1 + 1)) * a0_2)) : Int).toNat).drop ((ji7) : Int).toNat)) := ⟨_, rfl⟩
        replace H : (if x4_1.length < 5864062014805 then (impl_reduce.l0 k1 (x4_1 ++ [yAj]) (wrap64 (x5_1 + 1)) a0_0 a0_1 a0_2 l0_3) else (none)) = some (r1, r2, r3, r4, r5) := yR hyAj H
        have NyAj := Aside0.mk hyAj
        clear hyAj
        by_cases c12 : x4_1.length < 5864062014805
        ·rw [if_pos c12] at H
         have LMc12 := Aside0.mk c12
         clear c12
         obtain ⟨yAr, hyAr⟩ : ∃ y_ : List (List Int), y_ = (x4_1 ++ [yAj]) := ⟨_, rfl⟩
         replace H : (impl_reduce.l0 k1 yAr (wrap64 (x5_1 + 1)) a0_0 a0_1 a0_2 l0_3) = some (r1, r2, r3, r4, r5) := yR hyAr H
         have NyAr := Aside0.mk hyAr
         clear hyAr
         have H' := Aside0.mk H
         clear H
         have hnb13 := NBA_B.out
         have hnc13 := NBB_A.out
         obtain ⟨hcz14_0, hcz14_1, hcz14_2, hcz14_3, hfz14_0, hfz14_1, hfz14_2, hfz14_3⟩ := bc4 BKA.out
         go_wp2_with (first | ((with_reducible refine gate_dst (N := 26) rfl ?_); refine Kd.R_lit (Kd.int .i64) _ 3 ?hg (N := 26) ?hd (xs := ([] : List Int)) (inner := []) (ok := fun _ => True) (okp := fun _ => True) ?hr ?hp (fun _ hk => hk) trivial (Below.refl _ _) (Nat.le_refl _) (by simp) ?_; (case hd => rfl); (case hg => rfl); (case hr => first | (go_simp; done) | (go_simp; rfl)); (case hp => exact (Reps.none _ _)); intro vBm w15 ho16 hb hg_ hnew_; clear hg_ hnew_; (first | rw [← NyAi.out] at ho16 | (simp only [Int.reduceToNat] at ho16; rw [← NyAi.out] at ho16)); replace HO_4 := Aside0.mk (Kd.S_elder' (by (with_reducible repeat (first | apply Kd.S_alloc | apply Kd.S_drewN | apply Kd.S_drew)); exact HO_4.out) (Kd.R_base ho16) hb); have HOBd := Aside0.mk (Kd.R_lower ho16 (below_size pB)); replace BKA := aB BKA hb; replace BKB := aB BKB hb; replace HB := aH hb; clear hb ho16; obtain ⟨hcz17_0, hcz17_1, hcz17_2, hcz17_3, hfz17_0, hfz17_1, hfz17_2, hfz17_3⟩ := bc4 BKA.out; obtain ⟨iBh, hiBh, _, hsz18, _⟩ := info_parts info3; obtain ⟨A18, hcut18, hA18, hC18⟩ := print_mid_of (P := Try.prog) (Value.int .i64) 0 22 3 .i64 .i64 Try.underlying22 hiBh hsz18 A0_3 c0_3 l0_3 (ji7) (wrap64 ((wrap64 (x5_1 + 1)) * a0_2)) (oD) (by first | omega | exact oD) (oD) HC0_3.out; have HRBi := Aside0.mk (Kd.C_of_reads (h1 := fun _ => rfl) (hA18 _ (Kd.reads_of_C HR0_3.out))); have HCBi := Aside0.mk hC18; clear hA18 hC18 hiBh hsz18) | ((with_reducible refine gate_builtin (b := .append) (xs := #[.tmp 26, .tmp 38]) rfl ?_); at_builtin; refine Kd.R_append_rows (Kd.int .i64) (w0 := w) w.heap.size rfl (.tmp 26) (.tmp 38) 22 3 (.int .i64 0) 8 rfl Try.underlying22 info3 rfl (by decide) (by omega) vBm yAi ((l0_3.take ((wrap64 ((wrap64 (x5_1 + 1)) * a0_2)) : Int).toNat).drop ((ji7) : Int).toNat) _ _ _ (fun _ => True) (fun _ => False) rfl rfl ?aO ?aR (fun _ _ h => h) (fun _ h => h.elim) ?aF ?aB ?aS ?aL ?_; (case aR => first | (rw [← show ((l0_3.take ((wrap64 ((wrap64 (x5_1 + 1)) * a0_2)) : Int).toNat).drop ((ji7) : Int).toNat).length = ((wrap64 ((wrap64 (x5_1 + 1)) * a0_2)).toNat - (ji7).toNat) from (by rw [List.length_drop, List.length_take]; have h_ : ((wrap64 ((wrap64 (x5_1 + 1)) * a0_2)) : Int) ≤ (l0_3.length : Int) := oD; omega)]; exact pC (Kd.C_below HRBi.out HB.out)) | (exact pC (Kd.C_below HRBi.out HB.out))); (case aB => exact pB); (case aF => exact (fun _ _ => trivial)); (case aO => exact (pR HOBd.out)); (case aS => exact (below_size pB)); (case aL => have := LMc11.out; have hlx_ := (show ((l0_3.take ((wrap64 ((wrap64 (x5_1 + 1)) * a0_2)) : Int).toNat).drop ((ji7) : Int).toNat).length = ((wrap64 ((wrap64 (x5_1 + 1)) * a0_2)).toNat - (ji7).toNat) from (by rw [List.length_drop, List.length_take]; have h_ : ((wrap64 ((wrap64 (x5_1 + 1)) * a0_2)) : Int) ≤ (l0_3.length : Int) := oD; omega)); omega); intro vBx w19 ho hb hg hat; rw [← NyAj.out] at ho; have n0_ := Aside0.mk (Kd.S_after (ok := (fun _ => True)) (by (with_reducible repeat (first | apply Kd.S_alloc | apply Kd.S_drewN | apply Kd.S_drew)); exact HO_4.out) hg hat); have n1_ := Aside0.mk (blk_grown (g := gbA) (o := .cells #[.int .i64 a0_0, .int .i64 a0_1, .int .i64 a0_2, .slice A0_3 l0_3.length c0_3] 32 (0, 0)) (pK BKA.out) hg (Kd.R_ne HOBd.out BKA.out (by decide))); have n2_ := Aside0.mk (blk_grown (g := gbB) (o := .cells #[.int .i64 0, .int .i64 0, .int .i64 0, .slice none 0 0] 32 (0, 0)) (pK BKB.out) hg (Kd.R_ne HOBd.out BKB.out (by decide))); have n3_ := Aside0.mk (hb); have n4_ := Aside0.mk (ho); clear HO_4; clear BKA; clear BKB; clear HB; clear HOBd; have HO_4 := n0_; have BKA := n1_; have BKB := n2_; have HB := n3_; have HOBe := n4_; clear n0_ n1_ n2_ n3_ n4_; clear ho hb hg hat; obtain ⟨Ao21, co21, eo21⟩ := Kd.R_slice HOBe.out; subst eo21) | ((with_reducible refine gate_builtin (b := .append) (xs := #[.tmp 25, .tmp 40]) rfl ?_); at_builtin; refine Kd.S_append (Kd.slice 3 (Kd.int .i64)) (w0 := w) w.heap.size rfl (.tmp 25) (.tmp 40) 74 22 (.slice none 0 0) 24 rfl Try.underlying74 info22 rfl (by decide) (by omega) u4 x4_1 yAj [.slice Ao21 yAj.length co21] (fun _ => True) (fun k_ => some k_ = (.slice Ao21 yAj.length co21 : Value).ownBlock) rfl rfl ?aP (fun k_ hk_ => ((Kd.R_mono (ok' := fun k_ => ((fun _ => True)) k_ ∧ some k_ ≠ (u4 : Value).ownBlock) (Kd.R_apart' (HOBe.out) (Kd.S_typed HO_4.out) (by decide)) (fun k_ hk => ⟨trivial, hk.2⟩))).1 k_ hk_.symm) ?aF ?aO ?aB ?aS ?aL ?_; (case aP => exact Kd.M_row (Kd.R_mono (Kd.R_tight rfl (Kd.R_mono (ok' := fun k_ => ((fun _ => True)) k_ ∧ some k_ ≠ (u4 : Value).ownBlock) (Kd.R_apart' (HOBe.out) (Kd.S_typed HO_4.out) (by decide)) (fun k_ hk => ⟨trivial, hk.2⟩))) (fun _ h_ => h_))); (case aB => exact pB); (case aF => exact (fun _ _ => trivial)); (case aO => exact (by (with_reducible repeat (first | apply Kd.S_alloc | apply Kd.S_drewN | apply Kd.S_drew)); exact Kd.S_mono HO_4.out (fun k_ hk => ⟨trivial, fun e_ => hk.2 e_⟩))); (case aS => exact (below_size pB)); (case aL => have := LMc12.out; omega); intro vBy w20 ho hb hg hat; rw [← NyAr.out] at ho; have n0_ := Aside0.mk (blk_grown (g := gbA) (o := .cells #[.int .i64 a0_0, .int .i64 a0_1, .int .i64 a0_2, .slice A0_3 l0_3.length c0_3] 32 (0, 0)) (pK BKA.out) hg (Kd.S_ne HO_4.out BKA.out (by decide))); have n1_ := Aside0.mk (blk_grown (g := gbB) (o := .cells #[.int .i64 0, .int .i64 0, .int .i64 0, .slice none 0 0] 32 (0, 0)) (pK BKB.out) hg (Kd.S_ne HO_4.out BKB.out (by decide))); have n2_ := Aside0.mk (hb); have n3_ := Aside0.mk (ho); clear BKA; clear BKB; clear HB; clear HO_4; clear HOBe; have BKA := n0_; have BKB := n1_; have HB := n2_; have HOBn := n3_; clear n0_ n1_ n2_ n3_; clear ho hb hg hat))
         go_roundg k1
         case measure => have := HK1.out; omega
         case rel => exact ⟨(yAr), (wrap64 (x5_1 + 1)), p7, H', ⟨by have := HK1.out; omega⟩, ⟨by (with_reducible repeat (first | apply Kd.S_alloc | apply Kd.S_drewN | apply Kd.S_drew)); exact HOBn.out⟩, ⟨pK BKA.out⟩, ⟨pK BKB.out⟩, ⟨pB⟩⟩
        ·rw [if_neg c12] at H
         exact absurd H (by simp)
       ·rw [if_neg c11] at H
        exact absurd H (by simp)
      ·rw [if_neg c10] at H
       exact absurd H (by simp)
     ·rw [if_neg c9] at H
      exact absurd H (by simp)
    ·rw [if_neg c8] at H
     exact absurd H (by simp)
   ·rw [if_neg c6] at H
    have c6b0 : decide (x5_1 < a0_1) = false := decide_eq_false c6
    clear c6
    obtain ⟨yAm, hyAm⟩ : ∃ y_ : List Int, y_ = (([] : List Int)) := ⟨_, rfl⟩
    replace H : (impl_reduce.l1 k1 x4_1 yAm 0 a0_0 a0_1 a0_2 l0_3) = some (r1, r2, r3, r4, r5) := yR hyAm H
    have NyAm := Aside0.mk hyAm
    clear hyAm
    have H' := Aside0.mk H
    clear H
    have hnb22 := NBA_B.out
    have hnc22 := NBB_A.out
    obtain ⟨hcz23_0, hcz23_1, hcz23_2, hcz23_3, hfz23_0, hfz23_1, hfz23_2, hfz23_3⟩ := bc4 BKA.out
    go_wp2_with (first | ((with_reducible refine gate_dst (N := 42) rfl ?_); refine Kd.R_lit (Kd.int .i64) _ 3 ?hg (N := 42) ?hd (xs := ([] : List Int)) (inner := []) (ok := fun _ => True) (okp := fun _ => True) ?hr ?hp (fun _ hk => hk) trivial (Below.refl _ _) (Nat.le_refl _) (by simp) ?_; (case hd => rfl); (case hg => rfl); (case hr => first | (go_simp; done) | (go_simp; rfl)); (case hp => exact (Reps.none _ _)); intro vBz w24 ho25 hb hg_ hnew_; clear hg_ hnew_; (first | rw [← NyAm.out] at ho25 | (simp only [Int.reduceToNat] at ho25; rw [← NyAm.out] at ho25)); replace HO_4 := Aside0.mk (Kd.S_elder' (by (with_reducible repeat (first | apply Kd.S_alloc | apply Kd.S_drewN | apply Kd.S_drew)); exact HO_4.out) (Kd.R_base ho25) hb); have HOBo := Aside0.mk (Kd.R_lower ho25 (below_size pB)); replace BKA := aB BKA hb; replace BKB := aB BKB hb; replace HB := aH hb; clear hb ho25))
    go_loopg [6, 7] k1 (fun kq v6 v7 w' => ∃ (x4_2 : List (List Int)) (x6_2 : List Int) (x7_2 : Int), v7 = .int .i64 x7_2 ∧ Aside0 (impl_reduce.l1 kq x4_2 x6_2 x7_2 a0_0 a0_1 a0_2 l0_3 = some (r1, r2, r3, r4, r5)) ∧ Aside0 (kq ≤ k1) ∧ Aside0 (Kd.S (Kd.slice 3 (Kd.int .i64)) 22 w' w.heap.size (fun k_ => some k_ ≠ (v6 : Value).ownBlock) u4 x4_2) ∧ Aside0 (Kd.R (Kd.int .i64) 3 w' w.heap.size (fun _ => True) v6 x6_2) ∧ Aside0 (w'.heap[gbA]? = some (.cells #[.int .i64 a0_0, .int .i64 a0_1, .int .i64 a0_2, (.slice A0_3 l0_3.length c0_3)] 32 (0, 0))) ∧ Aside0 (w'.heap[gbB]? = some (.cells #[.int .i64 0, .int .i64 0, .int .i64 0, (.slice none 0 0)] 32 (0, 0))) ∧ Aside0 (Below w.heap.size w w'))
    case atStart => exact ⟨(x4_1), (yAm), (0), p7, H', ⟨Nat.le_refl _⟩, ⟨by (with_reducible repeat (first | apply Kd.S_alloc | apply Kd.S_drewN | apply Kd.S_drew)); exact Kd.S_mono HO_4.out (fun _ hk => hk.2)⟩, ⟨pR HOBo.out⟩, ⟨pK BKA.out⟩, ⟨pK BKB.out⟩, ⟨pB⟩⟩
    case round =>
     clear H'
     try clear c6
     try clear c6b0
     try clear hcz23_0
     try clear hcz23_1
     try clear hcz23_2
     try clear hcz23_3
     try clear hfz23_0
     try clear hfz23_1
     try clear hfz23_2
     try clear hfz23_3
     obtain ⟨x4_2, x6_2, x7_2, rfl, HA, HK2, HO_4, HO_6, BKA, BKB, HB⟩ := hrel
     cases gk with
     | zero => exact absurd HA.out (by simp [impl_reduce.l1])
     | succ k2 =>
      have H := HA.out
      clear HA
      simp only [impl_reduce.l1] at H
      by_cases c26 : x7_2 < a0_2
      ·rw [if_pos c26] at H
       have c26b0 : decide (x7_2 < a0_2) = true := decide_eq_true c26
       clear c26
       have HC27 := Aside0.mk H
       clear H
       have hnb28 := NBA_B.out
       have hnc28 := NBB_A.out
       obtain ⟨hcz29_0, hcz29_1, hcz29_2, hcz29_3, hfz29_0, hfz29_1, hfz29_2, hfz29_3⟩ := bc4 BKA.out
       obtain ⟨Ao30, co30, eo30⟩ := Kd.R_slice HO_6.out
       subst eo30
       go_upto_block 4 with (fail)
       go_cut [9] (fun v9 wc => ∃ (kq : Nat) (x9_26 : Int), v9 = .int .i64 x9_26 ∧ Aside0 (impl_reduce.j3 kq x4_2 x6_2 x7_2 (x6_2.length : Int) x9_26 a0_0 a0_1 a0_2 l0_3 = some (r1, r2, r3, r4, r5)) ∧ Aside0 (kq ≤ k2) ∧ Aside0 (Kd.S (Kd.slice 3 (Kd.int .i64)) 22 wc w.heap.size (fun k_ => some k_ ≠ ((.slice Ao30 x6_2.length co30) : Value).ownBlock) u4 x4_2) ∧ Aside0 (Kd.R (Kd.int .i64) 3 wc w.heap.size (fun _ => True) (.slice Ao30 x6_2.length co30) x6_2) ∧ Aside0 (wc.heap[gbA]? = some (.cells #[.int .i64 a0_0, .int .i64 a0_1, .int .i64 a0_2, (.slice A0_3 l0_3.length c0_3)] 32 (0, 0))) ∧ Aside0 (wc.heap[gbB]? = some (.cells #[.int .i64 0, .int .i64 0, .int .i64 0, (.slice none 0 0)] 32 (0, 0))) ∧ Aside0 (Below w.heap.size w wc))
       case first =>
        have H := HC27.out
        clear HC27
        have H' := Aside0.mk H
        clear H
        go_wp2
        go_loopg [9] k2 (fun kq v9 w' => ∃ (x9_3 : Int), v9 = .int .i64 x9_3 ∧ Aside0 (impl_reduce.l2 kq x4_2 x6_2 x7_2 (x6_2.length : Int) x9_3 a0_0 a0_1 a0_2 l0_3 = some (r1, r2, r3, r4, r5)) ∧ Aside0 (kq ≤ k2) ∧ Aside0 (Kd.S (Kd.slice 3 (Kd.int .i64)) 22 w' w.heap.size (fun k_ => some k_ ≠ ((.slice Ao30 x6_2.length co30) : Value).ownBlock) u4 x4_2) ∧ Aside0 (Kd.R (Kd.int .i64) 3 w' w.heap.size (fun _ => True) (.slice Ao30 x6_2.length co30) x6_2) ∧ Aside0 (w'.heap[gbA]? = some (.cells #[.int .i64 a0_0, .int .i64 a0_1, .int .i64 a0_2, (.slice A0_3 l0_3.length c0_3)] 32 (0, 0))) ∧ Aside0 (w'.heap[gbB]? = some (.cells #[.int .i64 0, .int .i64 0, .int .i64 0, (.slice none 0 0)] 32 (0, 0))) ∧ Aside0 (Below w.heap.size w w'))
        case atStart => exact ⟨((x6_2.length : Int)), p7, H', ⟨Nat.le_refl _⟩, ⟨by (with_reducible repeat (first | apply Kd.S_alloc | apply Kd.S_drewN | apply Kd.S_drew)); exact HO_4.out⟩, ⟨pR HO_6.out⟩, ⟨pK BKA.out⟩, ⟨pK BKB.out⟩, ⟨pB⟩⟩
        case round =>
         clear H'
         try clear c6
         try clear c6b0
         try clear c26
         try clear c26b0
         try clear hcz23_0
         try clear hcz23_1
         try clear hcz23_2
         try clear hcz23_3
         try clear hcz29_0
         try clear hcz29_1
         try clear hcz29_2
         try clear hcz29_3
         try clear hfz23_0
         try clear hfz23_1
         try clear hfz23_2
         try clear hfz23_3
         try clear hfz29_0
         try clear hfz29_1
         try clear hfz29_2
         try clear hfz29_3
         obtain ⟨x9_3, rfl, HA, HK3, HO_4, HO_6, BKA, BKB, HB⟩ := hrel
         cases gk with
         | zero => exact absurd HA.out (by simp [impl_reduce.l2])
         | succ k3 =>
          have H := HA.out
          clear HA
          simp only [impl_reduce.l2] at H
          by_cases c31 : x9_3 < (x4_2.length : Int)
          ·rw [if_pos c31] at H
           have c31b0 : decide (x9_3 < (x4_2.length : Int)) = true := decide_eq_true c31
           clear c31
           (first | rw [c31b0] | (simp only [i64_w, i32_w]; rw [c31b0]) | skip)
           by_cases c32 : 0 ≤ x9_3
           ·rw [if_pos c32] at H
            have c32b0 : decide (0 ≤ x9_3) = true := decide_eq_true c32
            clear c32
            by_cases c33 : 0 ≤ x7_2
            ·rw [if_pos c33] at H
             have c33b0 : decide (0 ≤ x7_2) = true := decide_eq_true c33
             clear c33
             by_cases c34 : x7_2 < ((rd_L1 x4_2 x9_3).length : Int)
             ·rw [if_pos c34] at H
              have c34b0 : decide (x7_2 < ((rd_L1 x4_2 x9_3).length : Int)) = true := decide_eq_true c34
              clear c34
              by_cases c35 : (rd (rd_L1 x4_2 x9_3) x7_2) = 0
              ·rw [if_pos c35] at H
               have c35b0 : ((rd (rd_L1 x4_2 x9_3) x7_2) == 0) = true := beq_iff_eq.mpr c35
               have c35b1 : ((rd (rd_L1 x4_2 x9_3) x7_2) != 0) = false := bne_eq_false_iff_eq.mpr c35
               clear c35
               have H' := Aside0.mk H
               clear H
               obtain ⟨Ao36, co36, eo36⟩ := Kd.S_slice HO_4.out
               subst eo36
               have pD : 0 ≤ (x9_3 : Int) := oD
               have qD : x9_3 < (x4_2.length : Int) := oD
               obtain ⟨adD, AD_0, cD_0, eD, hxD_0, hlD_0, hiD_0⟩ := at_L1 (Kd.S_reads' HO_4.out).2.2 x9_3 pD qD
               cases eD
               obtain ⟨ceD, hceD, hMeD, hccD⟩ := Kd.S_get HO_4.out [] x9_3 pD (by first | exact qD | exact oD | (have e_ := (Kd.S_reads' HO_4.out).1; omega))
               obtain ⟨veD_0, rfl, geD_0⟩ := hMeD
               have hvD_0 := hccD 0 _ rfl
               rw [Nat.add_zero, show ((Kd.slice 3 (Kd.int .i64))).sz = 1 from rfl, Nat.mul_one] at hvD_0
               replace hvD_0 := Option.some.inj (hvD_0.symm.trans hxD_0)
               rw [hvD_0] at geD_0
               have HLD_0 := Aside0.mk (show Kd.R (Kd.int .i64) 3 _ _ _ _ (rd_L1 x4_2 x9_3) from geD_0)
               clear hvD_0 geD_0
               have HXD_0 := Aside0.mk hxD_0
               clear hccD hceD
               have HRD_0 := Aside0.mk hiD_0
               have HCD_0 := Aside0.mk hlD_0
               clear hiD_0 hlD_0
               replace pD := eq_true pD
               replace qD := eq_true qD
               have pZ : 0 ≤ (x7_2 : Int) := oD
               have qZ : x7_2 < ((rd_L1 x4_2 x9_3).length : Int) := oD
               obtain ⟨adZ, eZ, hxZ_0⟩ := Kd.at_int (by repeat (first | (with_reducible exact HRD_0.out) | (with_reducible refine Kd.C_alloc ?_ _) | (with_reducible refine Kd.C_drewN ?_ _) | (with_reducible refine Kd.C_drew ?_) | exact HRD_0.out)) x7_2 pZ qZ
               cases eZ
               replace pZ := eq_true pZ
               replace qZ := eq_true qZ
               go_wp2
               go_roundg k3
               case measure => have := HK1.out; have := HK2.out; have := HK3.out; omega
               case rel => exact ⟨(wrap64 (x9_3 + 1)), p7, H', ⟨by have := HK1.out; have := HK2.out; have := HK3.out; omega⟩, ⟨by (with_reducible repeat (first | apply Kd.S_alloc | apply Kd.S_drewN | apply Kd.S_drew)); exact HO_4.out⟩, ⟨pR HO_6.out⟩, ⟨pK BKA.out⟩, ⟨pK BKB.out⟩, ⟨pB⟩⟩
              ·rw [if_neg c35] at H
               have c35b0 : ((rd (rd_L1 x4_2 x9_3) x7_2) == 0) = false := beq_eq_false_iff_ne.mpr c35
               have c35b1 : ((rd (rd_L1 x4_2 x9_3) x7_2) != 0) = true := bne_iff_ne.mpr c35
               have H' := Aside0.mk H
               clear H
               obtain ⟨Ao37, co37, eo37⟩ := Kd.S_slice HO_4.out
               subst eo37
               have pD : 0 ≤ (x9_3 : Int) := oD
               have qD : x9_3 < (x4_2.length : Int) := oD
               obtain ⟨adD, AD_0, cD_0, eD, hxD_0, hlD_0, hiD_0⟩ := at_L1 (Kd.S_reads' HO_4.out).2.2 x9_3 pD qD
               cases eD
               obtain ⟨ceD, hceD, hMeD, hccD⟩ := Kd.S_get HO_4.out [] x9_3 pD (by first | exact qD | exact oD | (have e_ := (Kd.S_reads' HO_4.out).1; omega))
               obtain ⟨veD_0, rfl, geD_0⟩ := hMeD
               have hvD_0 := hccD 0 _ rfl
               rw [Nat.add_zero, show ((Kd.slice 3 (Kd.int .i64))).sz = 1 from rfl, Nat.mul_one] at hvD_0
               replace hvD_0 := Option.some.inj (hvD_0.symm.trans hxD_0)
               rw [hvD_0] at geD_0
               have HLD_0 := Aside0.mk (show Kd.R (Kd.int .i64) 3 _ _ _ _ (rd_L1 x4_2 x9_3) from geD_0)
               clear hvD_0 geD_0
               have HXD_0 := Aside0.mk hxD_0
               clear hccD hceD
               have HRD_0 := Aside0.mk hiD_0
               have HCD_0 := Aside0.mk hlD_0
               clear hiD_0 hlD_0
               replace pD := eq_true pD
               replace qD := eq_true qD
               have pZ : 0 ≤ (x7_2 : Int) := oD
               have qZ : x7_2 < ((rd_L1 x4_2 x9_3).length : Int) := oD
               obtain ⟨adZ, eZ, hxZ_0⟩ := Kd.at_int (by repeat (first | (with_reducible exact HRD_0.out) | (with_reducible refine Kd.C_alloc ?_ _) | (with_reducible refine Kd.C_drewN ?_ _) | (with_reducible refine Kd.C_drew ?_) | exact HRD_0.out)) x7_2 pZ qZ
               cases eZ
               replace pZ := eq_true pZ
               replace qZ := eq_true qZ
               go_wp2
               go_meet
               case rel => exact ⟨_, (x9_3), p7, H', ⟨by have := HK1.out; have := HK2.out; have := HK3.out; first | omega | exact Nat.le_refl _⟩, ⟨by (with_reducible repeat (first | apply Kd.S_alloc | apply Kd.S_drewN | apply Kd.S_drew)); exact HO_4.out⟩, ⟨pR HO_6.out⟩, ⟨pK BKA.out⟩, ⟨pK BKB.out⟩, ⟨pB⟩⟩
             ·rw [if_neg c34] at H
              exact absurd H (by simp)
            ·rw [if_neg c33] at H
             exact absurd H (by simp)
           ·rw [if_neg c32] at H
            exact absurd H (by simp)
          ·rw [if_neg c31] at H
           have c31b0 : decide (x9_3 < (x4_2.length : Int)) = false := decide_eq_false c31
           clear c31
           (first | rw [c31b0] | (simp only [i64_w, i32_w]; rw [c31b0]) | skip)
           have H' := Aside0.mk H
           clear H
           obtain ⟨Ao38, co38, eo38⟩ := Kd.S_slice HO_4.out
           subst eo38
           go_wp2
           go_meet
           case rel => exact ⟨_, (x9_3), p7, H', ⟨by have := HK1.out; have := HK2.out; have := HK3.out; first | omega | exact Nat.le_refl _⟩, ⟨by (with_reducible repeat (first | apply Kd.S_alloc | apply Kd.S_drewN | apply Kd.S_drew)); exact HO_4.out⟩, ⟨pR HO_6.out⟩, ⟨pK BKA.out⟩, ⟨pK BKB.out⟩, ⟨pB⟩⟩
       case rest =>
        clear HC27
        try clear c6
        try clear c6b0
        try clear c26
        try clear c26b0
        try clear hcz23_0
        try clear hcz23_1
        try clear hcz23_2
        try clear hcz23_3
        try clear hcz29_0
        try clear hcz29_1
        try clear hcz29_2
        try clear hcz29_3
        try clear hfz23_0
        try clear hfz23_1
        try clear hfz23_2
        try clear hfz23_3
        try clear hfz29_0
        try clear hfz29_1
        try clear hfz29_2
        try clear hfz29_3
        obtain ⟨kq, x9_26, rfl, HA, HJ26, HO_4, HO_6, BKA, BKB, HB⟩ := hcut
        cases kq with
        | zero => exact absurd HA.out (by simp [impl_reduce.j3])
        | succ kj26 =>
         have H := HA.out
         clear HA
         simp only [impl_reduce.j3] at H
         by_cases c39 : x9_26 ≥ (x4_2.length : Int)
         ·rw [if_pos c39] at H
          have c39b0 : decide ((x4_2.length : Int) ≤ x9_26) = true := decide_eq_true c39
          clear c39
          have H' := Aside0.mk H
          clear H
          obtain ⟨Ao40, co40, eo40⟩ := Kd.S_slice HO_4.out
          subst eo40
          go_wp2
          go_roundg kj26
          case measure => have := HK1.out; have := HK2.out; have := HJ26.out; omega
          case rel => exact ⟨(x4_2), (x6_2), (wrap64 (x7_2 + 1)), p7, H', ⟨by have := HK1.out; have := HK2.out; have := HJ26.out; omega⟩, ⟨by (with_reducible repeat (first | apply Kd.S_alloc | apply Kd.S_drewN | apply Kd.S_drew)); exact HO_4.out⟩, ⟨pR HO_6.out⟩, ⟨pK BKA.out⟩, ⟨pK BKB.out⟩, ⟨pB⟩⟩
         ·rw [if_neg c39] at H
          have c39b0 : decide ((x4_2.length : Int) ≤ x9_26) = false := decide_eq_false c39
          clear c39
          replace H := bS H
          obtain ⟨tAd, A41, H⟩ := H
          by_cases c42 : 0 ≤ (x6_2.length : Int)
          ·rw [if_pos c42] at H
           have c42b0 : decide (0 ≤ (x6_2.length : Int)) = true := decide_eq_true c42
           have c42b1 : decide (0 ≤ x6_2.length) = true := decide_eq_true (by omega)
           clear c42
           by_cases c43 : (x6_2.length : Int) < (x4_2.length : Int)
           ·rw [if_pos c43] at H
            have c43b0 : decide ((x6_2.length : Int) < (x4_2.length : Int)) = true := decide_eq_true c43
            have c43b1 : decide (x6_2.length < x4_2.length) = true := decide_eq_true (Int.ofNat_lt.mp c43)
            clear c43
            by_cases c44 : 0 ≤ x7_2
            ·rw [if_pos c44] at H
             have c44b0 : decide (0 ≤ x7_2) = true := decide_eq_true c44
             clear c44
             by_cases c45 : x7_2 < ((rd_L1 tAd (x6_2.length : Int)).length : Int)
             ·rw [if_pos c45] at H
              have c45b0 : decide (x7_2 < ((rd_L1 tAd (x6_2.length : Int)).length : Int)) = true := decide_eq_true c45
              clear c45
              replace H := bS H
              obtain ⟨tAv, A46, H⟩ := H
              have H' := Aside0.mk H
              clear H
              obtain ⟨Ao47, co47, eo47⟩ := Kd.S_slice HO_4.out
              subst eo47
              obtain ⟨hb1, hb2, hb3, hb4, htlS, hln⟩ := swapRows.some_ A41.out
              have Hln := Aside0.mk hln
              have HtlS := Aside0.mk htlS
              clear hln htlS
              obtain ⟨goS, coS, eoS, gbS, glS, clS, hcS⟩ := Kd.S_form HO_4.out (by omega)
              cases eoS
              obtain ⟨ciS, cjS, hciS, hcjS, hfiS, hfjS, hKiS, hKjS, hSS, hgS⟩ := S_swap rfl HO_4.out ([] : List Int) x6_2.length x9_26.toNat (by omega) (by omega)
              obtain ⟨AiS, kiS, eiS, _, _⟩ := hKiS
              obtain ⟨AjS, kjS, ejS, _, _⟩ := hKjS
              generalize (x4_2.getD x6_2.length []).length = nIS at eiS
              generalize (x4_2.getD x9_26.toNat []).length = nJS at ejS
              obtain rfl := List.singleton_inj.1 eiS
              obtain rfl := List.singleton_inj.1 ejS
              clear eiS ejS
              obtain ⟨viS, hviS⟩ := cell?_setCell_some (w := wc) (p := ⟨goS, x6_2.length, none⟩) (x := .slice AjS nJS kjS) (q := ⟨goS, x9_26.toNat, none⟩) (v := .slice AjS nJS kjS) hcjS
              obtain ⟨vjS, hvjS⟩ := cell?_setCell_some (w := wc) (p := ⟨goS, x9_26.toNat, none⟩) (x := .slice AiS nIS kiS) (q := ⟨goS, x6_2.length, none⟩) (v := .slice AiS nIS kiS) hciS
              have HSS := Aside0.mk hSS
              have HGS := Aside0.mk hgS
              have HCS := Aside0.mk hcS
              have GBS := Aside0.mk gbS
              clear hSS hgS hcS gbS
              have hb2b : decide ((x6_2.length : Int) < (x4_2.length : Int)) = true := decide_eq_true hb2
              have hb2c : decide (x6_2.length < x4_2.length) = true := decide_eq_true (by omega)
              have hb3b : decide (0 ≤ x9_26) = true := decide_eq_true hb3
              have hb4b : decide (x9_26 < (x4_2.length : Int)) = true := decide_eq_true hb4
              go_wp2
              go_region
              have n0_ := Aside0.mk (Kd.S_drew HSS.out)
              rw [show swapList x4_2 x6_2.length x9_26.toNat [] = tAd from by rw [HtlS.out]; simp] at n0_
              have n1_ := Aside0.mk (Kd.R_drew (Kd.R_mono (Kd.R_grown (Kd.R_types HO_6.out HCS.out (by decide)) HGS.out (fun k hk e => hk.2 (by injection e))) (fun _ h => h.1)))
              have n2_ := Aside0.mk (blk_drew (blk_grown BKA.out HGS.out (fun e => by injection e with e; exact blk_ne BKA.out HCS.out (by decide) e)))
              have n3_ := Aside0.mk (blk_drew (blk_grown BKB.out HGS.out (fun e => by injection e with e; exact blk_ne BKB.out HCS.out (by decide) e)))
              have n4_ := Aside0.mk (below_drew1 (pw_below_grown HB.out _ HB.out.size HGS.out (fun k e => by injection e with e; rw [← e]; exact GBS.out)))
              clear HO_4 HO_6 BKA BKB HB hciS hcjS hfiS hfjS hviS hvjS HSS HGS HCS hb2b hb2c hb3b hb4b
              have HO_4 := n0_
              have HO_6 := n1_
              have BKA := n2_
              have BKB := n3_
              have HB := n4_
              clear n0_ n1_ n2_ n3_ n4_
              generalize ((wc.setCell ⟨goS, x6_2.length, none⟩ (.slice AjS nJS kjS)).setCell ⟨goS, x9_26.toNat, none⟩ (.slice AiS nIS kiS)).drew = w48 at HO_4 HO_6 BKA BKB HB ⊢
              generalize hAo : (some (⟨goS, 0, none⟩ : Addr)) = Ao47 at HO_4 ⊢
              have HAo := Aside0.mk hAo
              clear hAo
              go_wp2
              replace HO_4 := Aside0.mk (Kd.S_drew HO_4.out)
              replace HO_6 := Aside0.mk (Kd.R_drew HO_6.out)
              replace BKA := Aside0.mk (blk_drew BKA.out)
              replace BKB := Aside0.mk (blk_drew BKB.out)
              replace HB := Aside0.mk (below_drew1 HB.out)
              have pE : 0 ≤ ((x6_2.length : Int) : Int) := oD
              have qE : (x6_2.length : Int) < (tAd.length : Int) := (by have h_ : ((x6_2.length : Int) : Int) < ((x4_2.length : Int) : Int) := oD; have e_ := (Kd.S_reads' HO_4.out).1; omega)
              have qlE : (((x6_2.length : Int) : Int) < ((x4_2.length : Int) : Int)) = True := eq_true (oD)
              obtain ⟨adE, AE_0, cE_0, eE, hxE_0, hlE_0, hiE_0⟩ := at_L1 (Kd.S_reads' HO_4.out).2.2 (x6_2.length : Int) pE qE
              cases eE
              obtain ⟨ceE, hceE, hMeE, hccE⟩ := Kd.S_get HO_4.out [] (x6_2.length : Int) pE (by first | exact qE | exact oD | (have e_ := (Kd.S_reads' HO_4.out).1; omega))
              obtain ⟨veE_0, rfl, geE_0⟩ := hMeE
              have hvE_0 := hccE 0 _ rfl
              rw [Nat.add_zero, show ((Kd.slice 3 (Kd.int .i64))).sz = 1 from rfl, Nat.mul_one] at hvE_0
              replace hvE_0 := Option.some.inj (hvE_0.symm.trans hxE_0)
              rw [hvE_0] at geE_0
              have HLE_0 := Aside0.mk (show Kd.R (Kd.int .i64) 3 _ _ _ _ (rd_L1 tAd (x6_2.length : Int)) from geE_0)
              clear hvE_0 geE_0
              have HXE_0 := Aside0.mk hxE_0
              clear hccE hceE
              have HRE_0 := Aside0.mk hiE_0
              have HCE_0 := Aside0.mk hlE_0
              clear hiE_0 hlE_0
              (try simp only [Go.IntWalk.toNatUp] at hxE_0)
              replace pE := eq_true pE
              replace qE := eq_true qE
              have pY : 0 ≤ (x7_2 : Int) := oD
              have qY : x7_2 < ((rd_L1 tAd (x6_2.length : Int)).length : Int) := oD
              obtain ⟨adY, eY, hxY_0⟩ := Kd.at_int (by repeat (first | (with_reducible exact HRE_0.out) | (with_reducible refine Kd.C_alloc ?_ _) | (with_reducible refine Kd.C_drewN ?_ _) | (with_reducible refine Kd.C_drew ?_) | exact HRE_0.out)) x7_2 pY qY
              cases eY
              replace pY := eq_true pY
              replace qY := eq_true qY
              refine start_ (n := 11) (S := fun w' => w'.cell? ⟨gbA, 0, none⟩ = some (.int .i64 a0_0) ∧ w'.cell? ⟨gbA, 1, none⟩ = some (.int .i64 a0_1) ∧ w'.cell? ⟨gbA, 2, none⟩ = some (.int .i64 a0_2) ∧ w'.cell? ⟨gbA, 3, none⟩ = some (.slice A0_3 l0_3.length c0_3) ∧ w'.cell? (adE.add x6_2.length) = some (.slice (some adY) (rd_L1 tAd (x6_2.length : Int)).length cE_0) ∧ w'.cell? (adY.add (x7_2).toNat) = some (.int .i64 (rd (rd_L1 tAd (x6_2.length : Int)) x7_2))) (ds := []) #[false, false, false, false, false, false, false, false, false, false, false] kr rfl rfl ⟨(blk_cell BKA.out 0).trans rfl, (blk_cell BKA.out 1).trans rfl, (blk_cell BKA.out 2).trans rfl, (blk_cell BKA.out 3).trans rfl, hxE_0, hxY_0⟩ (fun hHeld => ?_); refine with_tabW impl_reduce.tab16 impl_reduce.bits16 (fun HT_ HW_ => ?_)
              generalize w48.drew = w49 at HO_4 HO_6 BKA BKB HB HLE_0 HRE_0 HXE_0 hxE_0 hxY_0 hHeld ⊢
              refine pA 0 86 (any_of HT_.out kr) ?_
              refine pA 2 88 (any_of HT_.out kr) ?_
              refine pA 3 89 (any_of HT_.out kr) ?_
              refine pA 4 90 (any_of HT_.out kr) ?_
              refine pA 6 92 (any_of HT_.out kr) ?_
              refine tA6 1 87 (take_ofW HT_.out HW_.out kr) hHeld ?_
              refine tA6 5 91 (take_ofW HT_.out HW_.out kr) hHeld ?_
              refine pA 7 93 (any_of HT_.out kr) ?_
              refine tA6 8 94 (take_ofW HT_.out HW_.out kr) hHeld ?_
              refine one_ (i := 9) (N := some 95) #[true, true, true, true, true, true, true, true, true, true, false] rfl rfl (one_of HT_.out kr) (by decide) (fun K hK => ?_)
              refine goes_ Try.func84 kr rfl #[.int .i64 a0_0, .int .i64 (rd (rd_L1 tAd (x6_2.length : Int)) x7_2)] (by rfl) rfl rfl p5 ?_
              with_reducible refine (impl_InverseIn.calls kj26 a0_0 (rd (rd_L1 tAd (x6_2.length : Int)) x7_2) tAv _ A46.out).mono ?_
              rintro e w' ⟨rfl, ⟨nd, rfl⟩⟩
              refine ⟨_, rfl, ?_⟩
              refine hK.out _ _ ⟨(blk_cell BKA.out 0).trans rfl, (blk_cell BKA.out 1).trans rfl, (blk_cell BKA.out 2).trans rfl, (blk_cell BKA.out 3).trans rfl, hHeld.2.2.2.2.1, hHeld.2.2.2.2.2⟩ (fun hHeld => ?_)
              clear hK K
              refine norm_ (a' := ?_) ?_ ?_
              rotate_left
              ·show Act.put _ (some 95) _ = _
               simp only [Act.put, List.setIfInBounds_toArray, List.set_cons_zero, List.set_cons_succ, i64_w, i32_w]
               rfl
              refine pA 10 10 (any_of HT_.out kr) ?_
              refine done_ (done_of HT_.out kr) ?_
              have pO : 0 ≤ ((x6_2.length : Int) : Int) := oD
              have qO : (x6_2.length : Int) < (tAd.length : Int) := (by have h_ : ((x6_2.length : Int) : Int) < ((x4_2.length : Int) : Int) := oD; have e_ := (Kd.S_reads' HO_4.out).1; omega)
              have qlO : (((x6_2.length : Int) : Int) < ((x4_2.length : Int) : Int)) = True := eq_true (oD)
              obtain ⟨adO, AO_0, cO_0, eO, hxO_0, hlO_0, hiO_0⟩ := at_L1 (Kd.S_reads' HO_4.out).2.2 (x6_2.length : Int) pO qO
              obtain rfl : adE = adO := (by injection eO)
              obtain ⟨ceO, hceO, hMeO, hccO⟩ := Kd.S_get HO_4.out [] (x6_2.length : Int) pO (by first | exact qO | exact oD | (have e_ := (Kd.S_reads' HO_4.out).1; omega))
              obtain ⟨veO_0, rfl, geO_0⟩ := hMeO
              have hvO_0 := hccO 0 _ rfl
              rw [Nat.add_zero, show ((Kd.slice 3 (Kd.int .i64))).sz = 1 from rfl, Nat.mul_one] at hvO_0
              replace hvO_0 := Option.some.inj (hvO_0.symm.trans hxO_0)
              rw [hvO_0] at geO_0
              have HLO_0 := Aside0.mk (show Kd.R (Kd.int .i64) 3 _ _ _ _ (rd_L1 tAd (x6_2.length : Int)) from geO_0)
              clear hvO_0 geO_0
              have HXO_0 := Aside0.mk hxO_0
              clear hccO hceO
              have HRO_0 := Aside0.mk hiO_0
              have HCO_0 := Aside0.mk hlO_0
              clear hiO_0 hlO_0
              (try simp only [Go.IntWalk.toNatUp] at hxO_0)
              replace pO := eq_true pO
              replace qO := eq_true qO
              have ea_ := Option.some.inj (hxE_0.symm.trans hxO_0)
              injection ea_ with ea_ en_ ec_
              subst ea_
              subst ec_
              clear en_
              try go_wp2
              go_loopg [101] kj26 (fun kq vU w' => ∃ (x4_4 : List (List Int)) (x6_4 : List Int) (xU_4 : Int), vU = .int .i64 xU_4 ∧ Aside0 (impl_reduce.l3 kq x4_4 x6_4 x7_2 (x6_2.length : Int) tAv ((rd_L1 tAd (x6_2.length : Int)).length : Int) xU_4 a0_0 a0_1 a0_2 l0_3 = some (r1, r2, r3, r4, r5)) ∧ Aside0 (kq ≤ kj26) ∧ Aside0 (Kd.S (Kd.slice 3 (Kd.int .i64)) 22 w' w.heap.size (fun k_ => some k_ ≠ ((.slice Ao30 x6_2.length co30) : Value).ownBlock) (.slice (some adE) x4_2.length co47) x4_4) ∧ Aside0 (Kd.R (Kd.int .i64) 3 w' w.heap.size (fun _ => True) (.slice Ao30 x6_2.length co30) x6_4) ∧ Aside0 (w'.heap[gbA]? = some (.cells #[.int .i64 a0_0, .int .i64 a0_1, .int .i64 a0_2, (.slice A0_3 l0_3.length c0_3)] 32 (0, 0))) ∧ Aside0 (w'.heap[gbB]? = some (.cells #[.int .i64 0, .int .i64 0, .int .i64 0, (.slice none 0 0)] 32 (0, 0))) ∧ Aside0 (Below w.heap.size w w'))
              case atStart => exact ⟨(tAd), (x6_2), (0), p7, H', ⟨Nat.le_refl _⟩, ⟨by (with_reducible repeat (first | apply Kd.S_alloc | apply Kd.S_drewN | apply Kd.S_drew)); exact HO_4.out⟩, ⟨pR HO_6.out⟩, ⟨pK BKA.out⟩, ⟨pK BKB.out⟩, ⟨pB⟩⟩
              case round =>
               clear H'
               try clear c6
               try clear c6b0
               try clear c26
               try clear c26b0
               try clear c39
               try clear c39b0
               try clear c42
               try clear c42b0
               try clear c42b1
               try clear c43
               try clear c43b0
               try clear c43b1
               try clear c44
               try clear c44b0
               try clear c45
               try clear c45b0
               try clear hcz23_0
               try clear hcz23_1
               try clear hcz23_2
               try clear hcz23_3
               try clear hcz29_0
               try clear hcz29_1
               try clear hcz29_2
               try clear hcz29_3
               try clear hfz23_0
               try clear hfz23_1
               try clear hfz23_2
               try clear hfz23_3
               try clear hfz29_0
               try clear hfz29_1
               try clear hfz29_2
               try clear hfz29_3
               try clear hxE_0
               try clear hxY_0
               try clear hxO_0
               try clear pE
               try clear pY
               try clear pO
               try clear qE
               try clear qY
               try clear qO
               obtain ⟨x4_4, x6_4, xU_4, rfl, HA, HK4, HO_4, HO_6, BKA, BKB, HB⟩ := hrel
               have hl4_4 := (Kd.S_reads' HO_4.out).1
               rw [hl4_4] at HO_4
               (try simp only [hl4_4])
               (try simp only [hl4_4] at BKA)
               (try simp only [hl4_4] at BKB)
               (try simp only [hl4_4] at HO_6)
               have hl6_4 := (Kd.R_reads' HO_6.out).1
               rw [hl6_4] at HO_6
               (try simp only [hl6_4])
               (try simp only [hl6_4] at BKA)
               (try simp only [hl6_4] at BKB)
               (try simp only [hl6_4] at HO_4)
               cases gk with
               | zero => exact absurd HA.out (by simp [impl_reduce.l3])
               | succ k4 =>
                have H := HA.out
                clear HA
                simp only [impl_reduce.l3] at H
                by_cases c50 : xU_4 < ((rd_L1 tAd (x6_2.length : Int)).length : Int)
                ·rw [if_pos c50] at H
                 have c50b0 : decide (xU_4 < ((rd_L1 tAd (x6_2.length : Int)).length : Int)) = true := decide_eq_true c50
                 have c50b0q := c50b0
                 (try simp only [hl4_4, hl6_4] at c50b0q)
                 clear c50
                 by_cases c51 : 0 ≤ (x6_2.length : Int)
                 ·rw [if_pos c51] at H
                  have c51b0 : decide (0 ≤ (x6_2.length : Int)) = true := decide_eq_true c51
                  have c51b0q := c51b0
                  (try simp only [hl4_4, hl6_4] at c51b0q)
                  have c51b1 : decide (0 ≤ x6_2.length) = true := decide_eq_true (by omega)
                  have c51b1q := c51b1
                  (try simp only [hl4_4, hl6_4] at c51b1q)
                  clear c51
                  by_cases c52 : (x6_2.length : Int) < (x4_4.length : Int)
                  ·rw [if_pos c52] at H
                   have c52b0 : decide ((x6_2.length : Int) < (x4_4.length : Int)) = true := decide_eq_true c52
                   have c52b0q := c52b0
                   (try simp only [hl4_4, hl6_4] at c52b0q)
                   have c52b1 : decide (x6_2.length < x4_4.length) = true := decide_eq_true (Int.ofNat_lt.mp c52)
                   have c52b1q := c52b1
                   (try simp only [hl4_4, hl6_4] at c52b1q)
                   clear c52
                   by_cases c53 : 0 ≤ xU_4
                   ·rw [if_pos c53] at H
                    have c53b0 : decide (0 ≤ xU_4) = true := decide_eq_true c53
                    clear c53
                    by_cases c54 : xU_4 < ((rd_L1 x4_4 (x6_2.length : Int)).length : Int)
                    ·rw [if_pos c54] at H
                     have c54b0 : decide (xU_4 < ((rd_L1 x4_4 (x6_2.length : Int)).length : Int)) = true := decide_eq_true c54
                     have c54b0q := c54b0
                     (try simp only [hl4_4, hl6_4] at c54b0q)
                     clear c54
                     by_cases c55 : a0_0 = 0
                     ·rw [if_pos c55] at H
                      exact absurd H (by simp)
                     ·rw [if_neg c55] at H
                      have c55b0 : (a0_0 == 0) = false := beq_eq_false_iff_ne.mpr c55
                      have c55b1 : (a0_0 != 0) = true := bne_iff_ne.mpr c55
                      obtain ⟨yAn, hyAn⟩ : ∃ y_ : List Int, y_ = ((rd_L1 x4_4 (x6_2.length : Int)).set (xU_4 : Int).toNat (Int.tmod (wrap64 ((rd (rd_L1 x4_4 (x6_2.length : Int)) xU_4) * tAv)) a0_0)) := ⟨_, rfl⟩
                      replace H : (impl_reduce.l3 k4 (x4_4.set ((x6_2.length : Int) : Int).toNat yAn) x6_4 x7_2 (x6_2.length : Int) tAv ((rd_L1 tAd (x6_2.length : Int)).length : Int) (wrap64 (xU_4 + 1)) a0_0 a0_1 a0_2 l0_3) = some (r1, r2, r3, r4, r5) := yR hyAn H
                      have NyAn := Aside0.mk hyAn
                      clear hyAn
                      obtain ⟨yAs, hyAs⟩ : ∃ y_ : List (List Int), y_ = (x4_4.set ((x6_2.length : Int) : Int).toNat yAn) := ⟨_, rfl⟩
                      replace H : (impl_reduce.l3 k4 yAs x6_4 x7_2 (x6_2.length : Int) tAv ((rd_L1 tAd (x6_2.length : Int)).length : Int) (wrap64 (xU_4 + 1)) a0_0 a0_1 a0_2 l0_3) = some (r1, r2, r3, r4, r5) := yR hyAs H
                      have NyAs := Aside0.mk hyAs
                      clear hyAs
                      have H' := Aside0.mk H
                      clear H
                      try go_wp2
                      replace HO_4 := Aside0.mk (Kd.S_drew HO_4.out)
                      replace HO_6 := Aside0.mk (Kd.R_drew HO_6.out)
                      replace BKA := Aside0.mk (blk_drew BKA.out)
                      replace BKB := Aside0.mk (blk_drew BKB.out)
                      replace HB := Aside0.mk (below_drew1 HB.out)
                      have pG : 0 ≤ ((x6_2.length : Int) : Int) := oD
                      have qG : (x6_2.length : Int) < (x4_4.length : Int) := oD
                      obtain ⟨adG, AG_0, cG_0, eG, hxG_0, hlG_0, hiG_0⟩ := at_L1 (Kd.S_reads' HO_4.out).2.2 (x6_2.length : Int) pG qG
                      obtain rfl : adE = adG := (by injection eG)
                      obtain ⟨ceG, hceG, hMeG, hccG⟩ := Kd.S_get HO_4.out [] (x6_2.length : Int) pG (by first | exact qG | exact oD | (have e_ := (Kd.S_reads' HO_4.out).1; omega))
                      obtain ⟨veG_0, rfl, geG_0⟩ := hMeG
                      have hvG_0 := hccG 0 _ rfl
                      rw [Nat.add_zero, show ((Kd.slice 3 (Kd.int .i64))).sz = 1 from rfl, Nat.mul_one] at hvG_0
                      replace hvG_0 := Option.some.inj (hvG_0.symm.trans hxG_0)
                      rw [hvG_0] at geG_0
                      have HLG_0 := Aside0.mk (show Kd.R (Kd.int .i64) 3 _ _ _ _ (rd_L1 x4_4 (x6_2.length : Int)) from geG_0)
                      clear hvG_0 geG_0
                      have HXG_0 := Aside0.mk hxG_0
                      clear hccG hceG
                      have HRG_0 := Aside0.mk hiG_0
                      have HCG_0 := Aside0.mk hlG_0
                      clear hiG_0 hlG_0
                      (try simp only [Go.IntWalk.toNatUp] at hxG_0)
                      (try simp only [hl4_4, hl6_4] at pG)
                      (try simp only [hl4_4, hl6_4] at qG)
                      (try simp only [hl4_4, hl6_4] at hxG_0)
                      (try simp only [hl4_4, hl6_4] at pG)
                      (try simp only [hl4_4, hl6_4] at qG)
                      (try simp only [hl4_4, hl6_4] at hxG_0)
                      replace pG := eq_true pG
                      replace qG := eq_true qG
                      have pL : 0 ≤ ((x6_2.length : Int) : Int) := oD
                      have qL : (x6_2.length : Int) < (x4_4.length : Int) := oD
                      obtain ⟨adL, AL_0, cL_0, eL, hxL_0, hlL_0, hiL_0⟩ := at_L1 (Kd.S_reads' HO_4.out).2.2 (x6_2.length : Int) pL qL
                      obtain rfl : adE = adL := (by injection eL)
                      obtain ⟨ceL, hceL, hMeL, hccL⟩ := Kd.S_get HO_4.out [] (x6_2.length : Int) pL (by first | exact qL | exact oD | (have e_ := (Kd.S_reads' HO_4.out).1; omega))
                      obtain ⟨veL_0, rfl, geL_0⟩ := hMeL
                      have hvL_0 := hccL 0 _ rfl
                      rw [Nat.add_zero, show ((Kd.slice 3 (Kd.int .i64))).sz = 1 from rfl, Nat.mul_one] at hvL_0
                      replace hvL_0 := Option.some.inj (hvL_0.symm.trans hxL_0)
                      rw [hvL_0] at geL_0
                      have HLL_0 := Aside0.mk (show Kd.R (Kd.int .i64) 3 _ _ _ _ (rd_L1 x4_4 (x6_2.length : Int)) from geL_0)
                      clear hvL_0 geL_0
                      have HXL_0 := Aside0.mk hxL_0
                      clear hccL hceL
                      have HRL_0 := Aside0.mk hiL_0
                      have HCL_0 := Aside0.mk hlL_0
                      clear hiL_0 hlL_0
                      (try simp only [Go.IntWalk.toNatUp] at hxL_0)
                      (try simp only [hl4_4, hl6_4] at pL)
                      (try simp only [hl4_4, hl6_4] at qL)
                      (try simp only [hl4_4, hl6_4] at hxL_0)
                      (try simp only [hl4_4, hl6_4] at pL)
                      (try simp only [hl4_4, hl6_4] at qL)
                      (try simp only [hl4_4, hl6_4] at hxL_0)
                      replace pL := eq_true pL
                      replace qL := eq_true qL
                      have ea_ := Option.some.inj (hxG_0.symm.trans hxL_0)
                      injection ea_ with ea_ en_ ec_
                      subst ea_
                      subst ec_
                      clear en_
                      have pAf : 0 ≤ (xU_4 : Int) := oD
                      have qAf : xU_4 < ((rd_L1 x4_4 (x6_2.length : Int)).length : Int) := oD
                      obtain ⟨adAf, eAf, hxAf_0⟩ := Kd.at_int (by repeat (first | (with_reducible exact HRL_0.out) | (with_reducible refine Kd.C_alloc ?_ _) | (with_reducible refine Kd.C_drewN ?_ _) | (with_reducible refine Kd.C_drew ?_) | exact HRL_0.out)) xU_4 pAf qAf
                      cases eAf
                      (try simp only [hl4_4, hl6_4] at pAf)
                      (try simp only [hl4_4, hl6_4] at qAf)
                      (try simp only [hl4_4, hl6_4] at hxAf_0)
                      replace pAf := eq_true pAf
                      replace qAf := eq_true qAf
                      have p56 : 0 ≤ (xU_4 : Int) := oD
                      have q56 : (xU_4 : Int) < (((rd_L1 x4_4 (x6_2.length : Int)).length : Int) : Int) := oD
                      obtain ⟨go56, co56, eo56, gb56, gl56, cl56, HG56⟩ := Kd.R_form HLG_0.out (by omega)
                      (first | cases eo56 | (injection eo56 with ea_ en_ ec_; (first | subst ea_ | (injection ea_ with ea_; subst ea_)); subst ec_; clear en_))
                      have GB56 := Aside0.mk gb56
                      have GG56 := Aside0.mk HG56
                      clear gb56 gl56 HG56
                      (first | simp only [add_plain] at hxAf_0 | skip)
                      obtain ⟨hx56_0, hf56_0⟩ := Kd.R_celln 0 HLG_0.out (xU_4 : Int) p56 q56
                      (try simp only [hl4_4, hl6_4] at p56)
                      (try simp only [hl4_4, hl6_4] at q56)
                      (try simp only [hl4_4, hl6_4] at hx56_0)
                      replace p56 := eq_true p56
                      replace q56 := eq_true q56
                      have hq58 : ((x6_2.length : Int) : Int) < (x4_4.length : Int) := (by have h_ : ((x6_2.length : Int) : Int) < ((x4_4.length : Int) : Int) := oD; first | exact h_ | (have e_ := (Kd.S_reads' HO_4.out).1; omega) | simpa only [List.length_set, List.length_set] using h_)
                      obtain ⟨oki58, ce58, hcl58, hM58, hcc58, hok58, hbk58⟩ := Kd.S_borrow HO_4.out [] ((x6_2.length : Int) : Int) (oD) hq58
                      obtain ⟨ve58_0, rfl, ge58_0⟩ := hM58
                      have hv58 := hcc58 0 _ rfl
                      rw [Nat.add_zero, show ((Kd.slice 3 (Kd.int .i64))).sz = 1 from rfl, Nat.mul_one] at hv58
                      replace hv58 := Option.some.inj (hv58.symm.trans HXG_0.out)
                      subst hv58
                      clear hcc58 hcl58
                      replace ge58_0 := (show Kd.R (Kd.int .i64) 3 _ _ _ _ (rd_L1 x4_4 (x6_2.length : Int)) from ge58_0)
                      have HP58 := Kd.R_putg ge58_0 (xU_4 : Int) (Int.tmod (wrap64 ((rd (rd_L1 x4_4 (x6_2.length : Int)) xU_4) * tAv)) a0_0)
                      rw [← NyAn.out] at HP58
                      have HS58 := hbk58 HP58.2 (fun k_ e_ => by injection e_ with e_; subst e_; exact ge58_0.1 _ rfl) (x' := yAn) (Kd.M_row HP58.1)
                      rw [← NyAs.out] at HS58
                      have HQ58 := Aside0.mk HS58
                      clear HP58 HS58 hbk58 hok58
                      (try simp only [hl4_4, hl6_4] at HQ58)
                      refine start_ (n := 19) (S := fun w' => w'.cell? ⟨gbA, 0, none⟩ = some (.int .i64 a0_0) ∧ w'.cell? ⟨gbA, 1, none⟩ = some (.int .i64 a0_1) ∧ w'.cell? ⟨gbA, 2, none⟩ = some (.int .i64 a0_2) ∧ w'.cell? ⟨gbA, 3, none⟩ = some (.slice A0_3 l0_3.length c0_3) ∧ w'.cell? (adE.add x6_4.length) = some (.slice (some (⟨go56, 0, none⟩ : Addr)) (rd_L1 x4_4 (x6_4.length : Int)).length cG_0) ∧ w'.cell? (adE.add x6_4.length) = some (.slice (some (⟨go56, 0, none⟩ : Addr)) (rd_L1 x4_4 (x6_4.length : Int)).length cG_0) ∧ w'.cell? ⟨go56, (xU_4).toNat, none⟩ = some (.int .i64 (rd (rd_L1 x4_4 (x6_4.length : Int)) xU_4))) (ds := [18]) #[false, false, false, false, false, false, false, false, false, false, false, false, false, false, false, false, false, false, false] kr rfl rfl ⟨(blk_cell BKA.out 0).trans rfl, (blk_cell BKA.out 1).trans rfl, (blk_cell BKA.out 2).trans rfl, (blk_cell BKA.out 3).trans rfl, hxG_0, hxL_0, hxAf_0⟩ (fun hHeld => ?_); refine with_tabW impl_reduce.tab20 impl_reduce.bits20 (fun HT_ HW_ => ?_)
                      generalize wr.drew = w57 at HO_4 HO_6 BKA BKB HB GG56 HLG_0 HLL_0 HQ58 HRG_0 HRL_0 HXG_0 HXL_0 hf56_0 hxG_0 hxL_0 hx56_0 hxAf_0 hHeld ⊢
                      refine pA 0 104 (any_of HT_.out kr) ?_
                      refine pA 1 105 (any_of HT_.out kr) ?_
                      refine pA 2 106 (any_of HT_.out kr) ?_
                      refine pA 4 108 (any_of HT_.out kr) ?_
                      refine pA 5 109 (any_of HT_.out kr) ?_
                      refine pA 6 110 (any_of HT_.out kr) ?_
                      refine pA 7 111 (any_of HT_.out kr) ?_
                      refine pA 9 113 (any_of HT_.out kr) ?_
                      refine pA 12 116 (any_of HT_.out kr) ?_
                      refine pA 14 118 (any_of HT_.out kr) ?_
                      refine tA7 3 107 (take_ofW HT_.out HW_.out kr) hHeld ?_
                      refine tA7 8 112 (take_ofW HT_.out HW_.out kr) hHeld ?_
                      refine pA 10 114 (any_of HT_.out kr) ?_
                      refine tA7 11 115 (take_ofW HT_.out HW_.out kr) hHeld ?_
                      refine pA 13 117 (any_of HT_.out kr) ?_
                      refine tA7 15 119 (take_ofW HT_.out HW_.out kr) hHeld ?_
                      refine pA 16 120 (any_of HT_.out kr) ?_
                      refine pA 17 121 (any_of HT_.out kr) ?_
                      refine last_ (i := 18) (N := none) #[true, true, true, true, true, true, true, true, true, true, true, true, true, true, true, true, true, true, true] rfl rfl (one_of HT_.out kr) (by decide) (fun K hK => ?_)
                      refine skip_ (w1 := ?_) (by rfl) rfl ?_ ?_
                      rotate_left
                      ·go_simp
                       rfl
                      refine hK.out _ _ ?_
                      clear hK K
                      refine done_ (done_of HT_.out kr) ?_
                      try go_wp2
                      (try simp only [← hl4_4, ← hl6_4])
                      go_roundg k4
                      case measure => have := HK1.out; have := HK2.out; have := HJ26.out; have := HK4.out; omega
                      case rel => exact ⟨(yAs), (x6_4), (wrap64 (xU_4 + 1)), p7, H', ⟨by have := HK1.out; have := HK2.out; have := HJ26.out; have := HK4.out; omega⟩, ⟨by (try simp only [hl4_4]); (try simp only [hl6_4]); (with_reducible repeat (first | apply Kd.S_alloc | apply Kd.S_drewN | apply Kd.S_drew)); exact HQ58.out⟩, ⟨by (try simp only [hl4_4]); (try simp only [hl6_4]); (with_reducible repeat (first | apply Kd.R_alloc | apply Kd.R_drewN | apply Kd.R_drew)); exact Kd.R_mono (Kd.R_far (p := ⟨go56, (xU_4 : Int).toNat, none⟩) (Kd.R_far1 HO_6.out rfl ((HLG_0.out.1 _ rfl).1)) (fun _ hk => hk.2) (.int .i64 (Int.tmod (wrap64 ((rd (rd_L1 x4_4 (x6_4.length : Int)) xU_4) * tAv)) a0_0))) (fun _ hk => trivial)⟩, ⟨by (try simp only [hl4_4]); (try simp only [hl6_4]); (with_reducible repeat (first | refine blk_drewN ?_ _ | refine blk_drew ?_ | refine blk_alloc ?_ _)); refine blk_far ?_ (by have h_ := Kd.R_ne HLG_0.out BKA.out (by decide); intro e_; exact h_ (by rw [e_]; rfl)) _; (with_reducible repeat (first | refine blk_drewN ?_ _ | refine blk_drew ?_ | refine blk_alloc ?_ _)); exact BKA.out⟩, ⟨by (try simp only [hl4_4]); (try simp only [hl6_4]); (with_reducible repeat (first | refine blk_drewN ?_ _ | refine blk_drew ?_ | refine blk_alloc ?_ _)); refine blk_far ?_ (by have h_ := Kd.R_ne HLG_0.out BKB.out (by decide); intro e_; exact h_ (by rw [e_]; rfl)) _; (with_reducible repeat (first | refine blk_drewN ?_ _ | refine blk_drew ?_ | refine blk_alloc ?_ _)); exact BKB.out⟩, ⟨by repeat (first | (with_reducible first | exact HB.out | apply below_alloc | apply pw_below_drewN | apply below_drew1 | refine below_set ?_ GB56.out | refine below_set ?_ GEA.out | refine below_set ?_ GEB.out) | exact HB.out)⟩⟩
                    ·rw [if_neg c54] at H
                     exact absurd H (by simp)
                   ·rw [if_neg c53] at H
                    exact absurd H (by simp)
                  ·rw [if_neg c52] at H
                   exact absurd H (by simp)
                 ·rw [if_neg c51] at H
                  exact absurd H (by simp)
                ·rw [if_neg c50] at H
                 have c50b0 : decide (xU_4 < ((rd_L1 tAd (x6_2.length : Int)).length : Int)) = false := decide_eq_false c50
                 have c50b0q := c50b0
                 (try simp only [hl4_4, hl6_4] at c50b0q)
                 clear c50
                 have H' := Aside0.mk H
                 clear H
                 go_wp2
                 go_loopg [125] k4 (fun kq vF w' => ∃ (x4_5 : List (List Int)) (x6_5 : List Int) (xF_5 : Int), vF = .int .i64 xF_5 ∧ Aside0 (impl_reduce.l4 kq x4_5 x6_5 x7_2 (x6_2.length : Int) (x4_4.length : Int) xF_5 a0_0 a0_1 a0_2 l0_3 = some (r1, r2, r3, r4, r5)) ∧ Aside0 (kq ≤ k4) ∧ Aside0 (Kd.S (Kd.slice 3 (Kd.int .i64)) 22 w' w.heap.size (fun k_ => some k_ ≠ ((.slice Ao30 x6_4.length co30) : Value).ownBlock) (.slice (some adE) x4_4.length co47) x4_5) ∧ Aside0 (Kd.R (Kd.int .i64) 3 w' w.heap.size (fun _ => True) (.slice Ao30 x6_4.length co30) x6_5) ∧ Aside0 (w'.heap[gbA]? = some (.cells #[.int .i64 a0_0, .int .i64 a0_1, .int .i64 a0_2, (.slice A0_3 l0_3.length c0_3)] 32 (0, 0))) ∧ Aside0 (w'.heap[gbB]? = some (.cells #[.int .i64 0, .int .i64 0, .int .i64 0, (.slice none 0 0)] 32 (0, 0))) ∧ Aside0 (Below w.heap.size w w'))
                 case atStart => exact ⟨(x4_4), (x6_4), (0), p7, H', ⟨Nat.le_refl _⟩, ⟨by (try simp only [hl4_4]); (try simp only [hl6_4]); (with_reducible repeat (first | apply Kd.S_alloc | apply Kd.S_drewN | apply Kd.S_drew)); exact HO_4.out⟩, ⟨by (try simp only [hl4_4]); (try simp only [hl6_4]); (with_reducible repeat (first | apply Kd.R_alloc | apply Kd.R_drewN | apply Kd.R_drew)); exact HO_6.out⟩, ⟨by (try simp only [hl4_4]); (try simp only [hl6_4]); (with_reducible repeat (first | refine blk_drewN ?_ _ | refine blk_drew ?_ | refine blk_alloc ?_ _)); exact BKA.out⟩, ⟨by (try simp only [hl4_4]); (try simp only [hl6_4]); (with_reducible repeat (first | refine blk_drewN ?_ _ | refine blk_drew ?_ | refine blk_alloc ?_ _)); exact BKB.out⟩, ⟨pB⟩⟩
                 case round =>
                  clear H'
                  try clear c6
                  try clear c6b0
                  try clear c26
                  try clear c26b0
                  try clear c39
                  try clear c39b0
                  try clear c42
                  try clear c42b0
                  try clear c42b1
                  try clear c43
                  try clear c43b0
                  try clear c43b1
                  try clear c44
                  try clear c44b0
                  try clear c45
                  try clear c45b0
                  try clear c50
                  try clear c50b0
                  try clear hcz23_0
                  try clear hcz23_1
                  try clear hcz23_2
                  try clear hcz23_3
                  try clear hcz29_0
                  try clear hcz29_1
                  try clear hcz29_2
                  try clear hcz29_3
                  try clear hfz23_0
                  try clear hfz23_1
                  try clear hfz23_2
                  try clear hfz23_3
                  try clear hfz29_0
                  try clear hfz29_1
                  try clear hfz29_2
                  try clear hfz29_3
                  try clear hxE_0
                  try clear hxY_0
                  try clear hxO_0
                  try clear pE
                  try clear pY
                  try clear pO
                  try clear qE
                  try clear qY
                  try clear qO
                  obtain ⟨x4_5, x6_5, xF_5, rfl, HA, HK5, HO_4, HO_6, BKA, BKB, HB⟩ := hrel
                  have hl4_5 := (Kd.S_reads' HO_4.out).1
                  rw [hl4_5] at HO_4
                  (try simp only [hl4_5])
                  (try simp only [hl4_5] at BKA)
                  (try simp only [hl4_5] at BKB)
                  (try simp only [hl4_5] at HO_6)
                  have hl6_5 := (Kd.R_reads' HO_6.out).1
                  rw [hl6_5] at HO_6
                  (try simp only [hl6_5])
                  (try simp only [hl6_5] at BKA)
                  (try simp only [hl6_5] at BKB)
                  (try simp only [hl6_5] at HO_4)
                  cases gk with
                  | zero => exact absurd HA.out (by simp [impl_reduce.l4])
                  | succ k5 =>
                   have H := HA.out
                   clear HA
                   simp only [impl_reduce.l4] at H
                   by_cases c60 : xF_5 < (x4_4.length : Int)
                   ·rw [if_pos c60] at H
                    have c60b0 : decide (xF_5 < (x4_4.length : Int)) = true := decide_eq_true c60
                    have c60b0q := c60b0
                    (try simp only [hl4_4, hl6_4, hl4_5, hl6_5] at c60b0q)
                    clear c60
                    by_cases c61 : 0 ≤ xF_5
                    ·rw [if_pos c61] at H
                     have c61b0 : decide (0 ≤ xF_5) = true := decide_eq_true c61
                     clear c61
                     by_cases c62 : xF_5 < (x4_5.length : Int)
                     ·rw [if_pos c62] at H
                      have c62b0 : decide (xF_5 < (x4_5.length : Int)) = true := decide_eq_true c62
                      have c62b0q := c62b0
                      (try simp only [hl4_4, hl6_4, hl4_5, hl6_5] at c62b0q)
                      clear c62
                      by_cases c63 : 0 ≤ x7_2
                      ·rw [if_pos c63] at H
                       have c63b0 : decide (0 ≤ x7_2) = true := decide_eq_true c63
                       clear c63
                       by_cases c64 : x7_2 < ((rd_L1 x4_5 xF_5).length : Int)
                       ·rw [if_pos c64] at H
                        have c64b0 : decide (x7_2 < ((rd_L1 x4_5 xF_5).length : Int)) = true := decide_eq_true c64
                        clear c64
                        have H' := Aside0.mk H
                        clear H
                        have pT : 0 ≤ (xF_5 : Int) := oD
                        have qT : xF_5 < (x4_5.length : Int) := oD
                        obtain ⟨adT, AT_0, cT_0, eT, hxT_0, hlT_0, hiT_0⟩ := at_L1 (Kd.S_reads' HO_4.out).2.2 xF_5 pT qT
                        obtain rfl : adE = adT := (by injection eT)
                        obtain ⟨ceT, hceT, hMeT, hccT⟩ := Kd.S_get HO_4.out [] xF_5 pT (by first | exact qT | exact oD | (have e_ := (Kd.S_reads' HO_4.out).1; omega))
                        obtain ⟨veT_0, rfl, geT_0⟩ := hMeT
                        have hvT_0 := hccT 0 _ rfl
                        rw [Nat.add_zero, show ((Kd.slice 3 (Kd.int .i64))).sz = 1 from rfl, Nat.mul_one] at hvT_0
                        replace hvT_0 := Option.some.inj (hvT_0.symm.trans hxT_0)
                        rw [hvT_0] at geT_0
                        have HLT_0 := Aside0.mk (show Kd.R (Kd.int .i64) 3 _ _ _ _ (rd_L1 x4_5 xF_5) from geT_0)
                        clear hvT_0 geT_0
                        have HXT_0 := Aside0.mk hxT_0
                        clear hccT hceT
                        have HRT_0 := Aside0.mk hiT_0
                        have HCT_0 := Aside0.mk hlT_0
                        clear hiT_0 hlT_0
                        (try simp only [hl4_4, hl6_4, hl4_5, hl6_5] at pT)
                        (try simp only [hl4_4, hl6_4, hl4_5, hl6_5] at qT)
                        (try simp only [hl4_4, hl6_4, hl4_5, hl6_5] at hxT_0)
                        replace pT := eq_true pT
                        replace qT := eq_true qT
                        have pAg : 0 ≤ (x7_2 : Int) := oD
                        have qAg : x7_2 < ((rd_L1 x4_5 xF_5).length : Int) := oD
                        obtain ⟨adAg, eAg, hxAg_0⟩ := Kd.at_int (by repeat (first | (with_reducible exact HRT_0.out) | (with_reducible refine Kd.C_alloc ?_ _) | (with_reducible refine Kd.C_drewN ?_ _) | (with_reducible refine Kd.C_drew ?_) | exact HRT_0.out)) x7_2 pAg qAg
                        cases eAg
                        (try simp only [hl4_4, hl6_4, hl4_5, hl6_5] at pAg)
                        (try simp only [hl4_4, hl6_4, hl4_5, hl6_5] at qAg)
                        (try simp only [hl4_4, hl6_4, hl4_5, hl6_5] at hxAg_0)
                        replace pAg := eq_true pAg
                        replace qAg := eq_true qAg
                        go_wp2
                        go_loopg [14] k5 (fun kq v14 w' => ∃ (x4_6 : List (List Int)) (x6_6 : List Int) (x14_6 : Int), v14 = .int .i64 x14_6 ∧ Aside0 (impl_reduce.l5 kq x4_6 x6_6 x7_2 (x6_2.length : Int) xF_5 (rd (rd_L1 x4_5 xF_5) x7_2) x14_6 (x4_4.length : Int) xF_5 a0_0 a0_1 a0_2 l0_3 = some (r1, r2, r3, r4, r5)) ∧ Aside0 (kq ≤ k5) ∧ Aside0 (Kd.S (Kd.slice 3 (Kd.int .i64)) 22 w' w.heap.size (fun k_ => some k_ ≠ ((.slice Ao30 x6_5.length co30) : Value).ownBlock) (.slice (some adE) x4_5.length co47) x4_6) ∧ Aside0 (Kd.R (Kd.int .i64) 3 w' w.heap.size (fun _ => True) (.slice Ao30 x6_5.length co30) x6_6) ∧ Aside0 (w'.heap[gbA]? = some (.cells #[.int .i64 a0_0, .int .i64 a0_1, .int .i64 a0_2, (.slice A0_3 l0_3.length c0_3)] 32 (0, 0))) ∧ Aside0 (w'.heap[gbB]? = some (.cells #[.int .i64 0, .int .i64 0, .int .i64 0, (.slice none 0 0)] 32 (0, 0))) ∧ Aside0 (Below w.heap.size w w'))
                        case atStart => exact ⟨(x4_5), (x6_5), (0), p7, H', ⟨Nat.le_refl _⟩, ⟨by (try simp only [hl4_4]); (try simp only [hl6_4]); (try simp only [hl4_5]); (try simp only [hl6_5]); (with_reducible repeat (first | apply Kd.S_alloc | apply Kd.S_drewN | apply Kd.S_drew)); exact HO_4.out⟩, ⟨by (try simp only [hl4_4]); (try simp only [hl6_4]); (try simp only [hl4_5]); (try simp only [hl6_5]); (with_reducible repeat (first | apply Kd.R_alloc | apply Kd.R_drewN | apply Kd.R_drew)); exact HO_6.out⟩, ⟨by (try simp only [hl4_4]); (try simp only [hl6_4]); (try simp only [hl4_5]); (try simp only [hl6_5]); (with_reducible repeat (first | refine blk_drewN ?_ _ | refine blk_drew ?_ | refine blk_alloc ?_ _)); exact BKA.out⟩, ⟨by (try simp only [hl4_4]); (try simp only [hl6_4]); (try simp only [hl4_5]); (try simp only [hl6_5]); (with_reducible repeat (first | refine blk_drewN ?_ _ | refine blk_drew ?_ | refine blk_alloc ?_ _)); exact BKB.out⟩, ⟨pB⟩⟩
                        case round =>
                         clear H'
                         try clear c6
                         try clear c6b0
                         try clear c26
                         try clear c26b0
                         try clear c39
                         try clear c39b0
                         try clear c42
                         try clear c42b0
                         try clear c42b1
                         try clear c43
                         try clear c43b0
                         try clear c43b1
                         try clear c44
                         try clear c44b0
                         try clear c45
                         try clear c45b0
                         try clear c50
                         try clear c50b0
                         try clear c60
                         try clear c60b0
                         try clear c61
                         try clear c61b0
                         try clear c62
                         try clear c62b0
                         try clear c63
                         try clear c63b0
                         try clear c64
                         try clear c64b0
                         try clear hcz23_0
                         try clear hcz23_1
                         try clear hcz23_2
                         try clear hcz23_3
                         try clear hcz29_0
                         try clear hcz29_1
                         try clear hcz29_2
                         try clear hcz29_3
                         try clear hfz23_0
                         try clear hfz23_1
                         try clear hfz23_2
                         try clear hfz23_3
                         try clear hfz29_0
                         try clear hfz29_1
                         try clear hfz29_2
                         try clear hfz29_3
                         try clear hxE_0
                         try clear hxY_0
                         try clear hxO_0
                         try clear hxT_0
                         try clear hxAg_0
                         try clear pE
                         try clear pY
                         try clear pO
                         try clear pT
                         try clear pAg
                         try clear qE
                         try clear qY
                         try clear qO
                         try clear qT
                         try clear qAg
                         obtain ⟨x4_6, x6_6, x14_6, rfl, HA, HK6, HO_4, HO_6, BKA, BKB, HB⟩ := hrel
                         have hl4_6 := (Kd.S_reads' HO_4.out).1
                         rw [hl4_6] at HO_4
                         (try simp only [hl4_6])
                         (try simp only [hl4_6] at BKA)
                         (try simp only [hl4_6] at BKB)
                         (try simp only [hl4_6] at HO_6)
                         have hl6_6 := (Kd.R_reads' HO_6.out).1
                         rw [hl6_6] at HO_6
                         (try simp only [hl6_6])
                         (try simp only [hl6_6] at BKA)
                         (try simp only [hl6_6] at BKB)
                         (try simp only [hl6_6] at HO_4)
                         cases gk with
                         | zero => exact absurd HA.out (by simp [impl_reduce.l5])
                         | succ k6 =>
                          have H := HA.out
                          clear HA
                          simp only [impl_reduce.l5] at H
                          by_cases c65 : x14_6 < a0_2
                          ·rw [if_pos c65] at H
                           have c65b0 : decide (x14_6 < a0_2) = true := decide_eq_true c65
                           clear c65
                           by_cases c66 : xF_5 = (x6_2.length : Int)
                           ·rw [if_pos c66] at H
                            have c66b0 : (xF_5 == (x6_2.length : Int)) = true := beq_iff_eq.mpr c66
                            have c66b0q := c66b0
                            (try simp only [hl4_4, hl6_4, hl4_5, hl6_5, hl4_6, hl6_6] at c66b0q)
                            have c66b1 : (xF_5 != (x6_2.length : Int)) = false := bne_eq_false_iff_eq.mpr c66
                            have c66b1q := c66b1
                            (try simp only [hl4_4, hl6_4, hl4_5, hl6_5, hl4_6, hl6_6] at c66b1q)
                            clear c66
                            have H' := Aside0.mk H
                            clear H
                            have hnb67 := NBA_B.out
                            have hnc67 := NBB_A.out
                            obtain ⟨hcz68_0, hcz68_1, hcz68_2, hcz68_3, hfz68_0, hfz68_1, hfz68_2, hfz68_3⟩ := bc4 BKA.out
                            go_wp2
                            (try simp only [← hl4_5, ← hl6_5, ← hl4_6, ← hl6_6])
                            go_roundg k6
                            case measure => have := HK1.out; have := HK2.out; have := HJ26.out; have := HK4.out; have := HK5.out; have := HK6.out; omega
                            case rel => exact ⟨(x4_6), (x6_6), (wrap64 (xF_5 + 1)), p7, H', ⟨by have := HK1.out; have := HK2.out; have := HJ26.out; have := HK4.out; have := HK5.out; have := HK6.out; omega⟩, ⟨by (try simp only [hl4_4]); (try simp only [hl6_4]); (try simp only [hl4_5]); (try simp only [hl6_5]); (try simp only [hl4_6]); (try simp only [hl6_6]); (with_reducible repeat (first | apply Kd.S_alloc | apply Kd.S_drewN | apply Kd.S_drew)); exact HO_4.out⟩, ⟨by (try simp only [hl4_4]); (try simp only [hl6_4]); (try simp only [hl4_5]); (try simp only [hl6_5]); (try simp only [hl4_6]); (try simp only [hl6_6]); (with_reducible repeat (first | apply Kd.R_alloc | apply Kd.R_drewN | apply Kd.R_drew)); exact HO_6.out⟩, ⟨by (try simp only [hl4_4]); (try simp only [hl6_4]); (try simp only [hl4_5]); (try simp only [hl6_5]); (try simp only [hl4_6]); (try simp only [hl6_6]); (with_reducible repeat (first | refine blk_drewN ?_ _ | refine blk_drew ?_ | refine blk_alloc ?_ _)); exact BKA.out⟩, ⟨by (try simp only [hl4_4]); (try simp only [hl6_4]); (try simp only [hl4_5]); (try simp only [hl6_5]); (try simp only [hl4_6]); (try simp only [hl6_6]); (with_reducible repeat (first | refine blk_drewN ?_ _ | refine blk_drew ?_ | refine blk_alloc ?_ _)); exact BKB.out⟩, ⟨pB⟩⟩
                           ·rw [if_neg c66] at H
                            have c66b0 : (xF_5 == (x6_2.length : Int)) = false := beq_eq_false_iff_ne.mpr c66
                            have c66b0q := c66b0
                            (try simp only [hl4_4, hl6_4, hl4_5, hl6_5, hl4_6, hl6_6] at c66b0q)
                            have c66b1 : (xF_5 != (x6_2.length : Int)) = true := bne_iff_ne.mpr c66
                            have c66b1q := c66b1
                            (try simp only [hl4_4, hl6_4, hl4_5, hl6_5, hl4_6, hl6_6] at c66b1q)
                            by_cases c69 : 0 ≤ xF_5
                            ·rw [if_pos c69] at H
                             have c69b0 : decide (0 ≤ xF_5) = true := decide_eq_true c69
                             clear c69
                             by_cases c70 : xF_5 < (x4_6.length : Int)
                             ·rw [if_pos c70] at H
                              have c70b0 : decide (xF_5 < (x4_6.length : Int)) = true := decide_eq_true c70
                              have c70b0q := c70b0
                              (try simp only [hl4_4, hl6_4, hl4_5, hl6_5, hl4_6, hl6_6] at c70b0q)
                              clear c70
                              by_cases c71 : 0 ≤ x14_6
                              ·rw [if_pos c71] at H
                               have c71b0 : decide (0 ≤ x14_6) = true := decide_eq_true c71
                               clear c71
                               by_cases c72 : x14_6 < ((rd_L1 x4_6 xF_5).length : Int)
                               ·rw [if_pos c72] at H
                                have c72b0 : decide (x14_6 < ((rd_L1 x4_6 xF_5).length : Int)) = true := decide_eq_true c72
                                clear c72
                                by_cases c73 : 0 ≤ (x6_2.length : Int)
                                ·rw [if_pos c73] at H
                                 have c73b0 : decide (0 ≤ (x6_2.length : Int)) = true := decide_eq_true c73
                                 have c73b0q := c73b0
                                 (try simp only [hl4_4, hl6_4, hl4_5, hl6_5, hl4_6, hl6_6] at c73b0q)
                                 have c73b1 : decide (0 ≤ x6_2.length) = true := decide_eq_true (by omega)
                                 have c73b1q := c73b1
                                 (try simp only [hl4_4, hl6_4, hl4_5, hl6_5, hl4_6, hl6_6] at c73b1q)
                                 clear c73
                                 by_cases c74 : (x6_2.length : Int) < (x4_6.length : Int)
                                 ·rw [if_pos c74] at H
                                  have c74b0 : decide ((x6_2.length : Int) < (x4_6.length : Int)) = true := decide_eq_true c74
                                  have c74b0q := c74b0
                                  (try simp only [hl4_4, hl6_4, hl4_5, hl6_5, hl4_6, hl6_6] at c74b0q)
                                  have c74b1 : decide (x6_2.length < x4_6.length) = true := decide_eq_true (Int.ofNat_lt.mp c74)
                                  have c74b1q := c74b1
                                  (try simp only [hl4_4, hl6_4, hl4_5, hl6_5, hl4_6, hl6_6] at c74b1q)
                                  clear c74
                                  by_cases c75 : x14_6 < ((rd_L1 x4_6 (x6_2.length : Int)).length : Int)
                                  ·rw [if_pos c75] at H
                                   have c75b0 : decide (x14_6 < ((rd_L1 x4_6 (x6_2.length : Int)).length : Int)) = true := decide_eq_true c75
                                   have c75b0q := c75b0
                                   (try simp only [hl4_4, hl6_4, hl4_5, hl6_5, hl4_6, hl6_6] at c75b0q)
                                   clear c75
                                   by_cases c76 : a0_0 = 0
                                   ·rw [if_pos c76] at H
                                    exact absurd H (by simp)
                                   ·rw [if_neg c76] at H
                                    have c76b0 : (a0_0 == 0) = false := beq_eq_false_iff_ne.mpr c76
                                    have c76b1 : (a0_0 != 0) = true := bne_iff_ne.mpr c76
                                    obtain ⟨yAo, hyAo⟩ : ∃ y_ : List Int, y_ = ((rd_L1 x4_6 xF_5).set (x14_6 : Int).toNat (Int.tmod (wrap64 ((rd (rd_L1 x4_6 xF_5) x14_6) + (wrap64 ((wrap64 (a0_0 - (rd (rd_L1 x4_5 xF_5) x7_2))) * (rd (rd_L1 x4_6 (x6_2.length : Int)) x14_6))))) a0_0)) := ⟨_, rfl⟩
                                    replace H : (impl_reduce.l5 k6 (x4_6.set (xF_5 : Int).toNat yAo) x6_6 x7_2 (x6_2.length : Int) xF_5 (rd (rd_L1 x4_5 xF_5) x7_2) (wrap64 (x14_6 + 1)) (x4_4.length : Int) xF_5 a0_0 a0_1 a0_2 l0_3) = some (r1, r2, r3, r4, r5) := yR hyAo H
                                    have NyAo := Aside0.mk hyAo
                                    clear hyAo
                                    obtain ⟨yAt, hyAt⟩ : ∃ y_ : List (List Int), y_ = (x4_6.set (xF_5 : Int).toNat yAo) := ⟨_, rfl⟩
                                    replace H : (impl_reduce.l5 k6 yAt x6_6 x7_2 (x6_2.length : Int) xF_5 (rd (rd_L1 x4_5 xF_5) x7_2) (wrap64 (x14_6 + 1)) (x4_4.length : Int) xF_5 a0_0 a0_1 a0_2 l0_3) = some (r1, r2, r3, r4, r5) := yR hyAt H
                                    have NyAt := Aside0.mk hyAt
                                    clear hyAt
                                    have H' := Aside0.mk H
                                    clear H
                                    have hnb78 := NBA_B.out
                                    have hnc78 := NBB_A.out
                                    obtain ⟨hcz79_0, hcz79_1, hcz79_2, hcz79_3, hfz79_0, hfz79_1, hfz79_2, hfz79_3⟩ := bc4 BKA.out
                                    try go_wp2
                                    replace HO_4 := Aside0.mk (Kd.S_drew HO_4.out)
                                    replace HO_6 := Aside0.mk (Kd.R_drew HO_6.out)
                                    replace BKA := Aside0.mk (blk_drew BKA.out)
                                    replace BKB := Aside0.mk (blk_drew BKB.out)
                                    replace HB := Aside0.mk (below_drew1 HB.out)
                                    have pI : 0 ≤ (xF_5 : Int) := oD
                                    have qI : xF_5 < (x4_6.length : Int) := oD
                                    obtain ⟨adI, AI_0, cI_0, eI, hxI_0, hlI_0, hiI_0⟩ := at_L1 (Kd.S_reads' HO_4.out).2.2 xF_5 pI qI
                                    obtain rfl : adE = adI := (by injection eI)
                                    obtain ⟨ceI, hceI, hMeI, hccI⟩ := Kd.S_get HO_4.out [] xF_5 pI (by first | exact qI | exact oD | (have e_ := (Kd.S_reads' HO_4.out).1; omega))
                                    obtain ⟨veI_0, rfl, geI_0⟩ := hMeI
                                    have hvI_0 := hccI 0 _ rfl
                                    rw [Nat.add_zero, show ((Kd.slice 3 (Kd.int .i64))).sz = 1 from rfl, Nat.mul_one] at hvI_0
                                    replace hvI_0 := Option.some.inj (hvI_0.symm.trans hxI_0)
                                    rw [hvI_0] at geI_0
                                    have HLI_0 := Aside0.mk (show Kd.R (Kd.int .i64) 3 _ _ _ _ (rd_L1 x4_6 xF_5) from geI_0)
                                    clear hvI_0 geI_0
                                    have HXI_0 := Aside0.mk hxI_0
                                    clear hccI hceI
                                    have HRI_0 := Aside0.mk hiI_0
                                    have HCI_0 := Aside0.mk hlI_0
                                    clear hiI_0 hlI_0
                                    (try simp only [hl4_4, hl6_4, hl4_5, hl6_5, hl4_6, hl6_6] at pI)
                                    (try simp only [hl4_4, hl6_4, hl4_5, hl6_5, hl4_6, hl6_6] at qI)
                                    (try simp only [hl4_4, hl6_4, hl4_5, hl6_5, hl4_6, hl6_6] at hxI_0)
                                    replace pI := eq_true pI
                                    replace qI := eq_true qI
                                    have pQ : 0 ≤ (xF_5 : Int) := oD
                                    have qQ : xF_5 < (x4_6.length : Int) := oD
                                    obtain ⟨adQ, AQ_0, cQ_0, eQ, hxQ_0, hlQ_0, hiQ_0⟩ := at_L1 (Kd.S_reads' HO_4.out).2.2 xF_5 pQ qQ
                                    obtain rfl : adE = adQ := (by injection eQ)
                                    obtain ⟨ceQ, hceQ, hMeQ, hccQ⟩ := Kd.S_get HO_4.out [] xF_5 pQ (by first | exact qQ | exact oD | (have e_ := (Kd.S_reads' HO_4.out).1; omega))
                                    obtain ⟨veQ_0, rfl, geQ_0⟩ := hMeQ
                                    have hvQ_0 := hccQ 0 _ rfl
                                    rw [Nat.add_zero, show ((Kd.slice 3 (Kd.int .i64))).sz = 1 from rfl, Nat.mul_one] at hvQ_0
                                    replace hvQ_0 := Option.some.inj (hvQ_0.symm.trans hxQ_0)
                                    rw [hvQ_0] at geQ_0
                                    have HLQ_0 := Aside0.mk (show Kd.R (Kd.int .i64) 3 _ _ _ _ (rd_L1 x4_6 xF_5) from geQ_0)
                                    clear hvQ_0 geQ_0
                                    have HXQ_0 := Aside0.mk hxQ_0
                                    clear hccQ hceQ
                                    have HRQ_0 := Aside0.mk hiQ_0
                                    have HCQ_0 := Aside0.mk hlQ_0
                                    clear hiQ_0 hlQ_0
                                    (try simp only [hl4_4, hl6_4, hl4_5, hl6_5, hl4_6, hl6_6] at pQ)
                                    (try simp only [hl4_4, hl6_4, hl4_5, hl6_5, hl4_6, hl6_6] at qQ)
                                    (try simp only [hl4_4, hl6_4, hl4_5, hl6_5, hl4_6, hl6_6] at hxQ_0)
                                    replace pQ := eq_true pQ
                                    replace qQ := eq_true qQ
                                    have ea_ := Option.some.inj (hxI_0.symm.trans hxQ_0)
                                    injection ea_ with ea_ en_ ec_
                                    subst ea_
                                    subst ec_
                                    clear en_
                                    have pAh : 0 ≤ (x14_6 : Int) := oD
                                    have qAh : x14_6 < ((rd_L1 x4_6 xF_5).length : Int) := oD
                                    obtain ⟨adAh, eAh, hxAh_0⟩ := Kd.at_int (by repeat (first | (with_reducible exact HRQ_0.out) | (with_reducible refine Kd.C_alloc ?_ _) | (with_reducible refine Kd.C_drewN ?_ _) | (with_reducible refine Kd.C_drew ?_) | exact HRQ_0.out)) x14_6 pAh qAh
                                    cases eAh
                                    (try simp only [hl4_4, hl6_4, hl4_5, hl6_5, hl4_6, hl6_6] at pAh)
                                    (try simp only [hl4_4, hl6_4, hl4_5, hl6_5, hl4_6, hl6_6] at qAh)
                                    (try simp only [hl4_4, hl6_4, hl4_5, hl6_5, hl4_6, hl6_6] at hxAh_0)
                                    replace pAh := eq_true pAh
                                    replace qAh := eq_true qAh
                                    have pM : 0 ≤ ((x6_2.length : Int) : Int) := oD
                                    have qM : (x6_2.length : Int) < (x4_6.length : Int) := oD
                                    obtain ⟨adM, AM_0, cM_0, eM, hxM_0, hlM_0, hiM_0⟩ := at_L1 (Kd.S_reads' HO_4.out).2.2 (x6_2.length : Int) pM qM
                                    obtain rfl : adE = adM := (by injection eM)
                                    obtain ⟨ceM, hceM, hMeM, hccM⟩ := Kd.S_get HO_4.out [] (x6_2.length : Int) pM (by first | exact qM | exact oD | (have e_ := (Kd.S_reads' HO_4.out).1; omega))
                                    obtain ⟨veM_0, rfl, geM_0⟩ := hMeM
                                    have hvM_0 := hccM 0 _ rfl
                                    rw [Nat.add_zero, show ((Kd.slice 3 (Kd.int .i64))).sz = 1 from rfl, Nat.mul_one] at hvM_0
                                    replace hvM_0 := Option.some.inj (hvM_0.symm.trans hxM_0)
                                    rw [hvM_0] at geM_0
                                    have HLM_0 := Aside0.mk (show Kd.R (Kd.int .i64) 3 _ _ _ _ (rd_L1 x4_6 (x6_2.length : Int)) from geM_0)
                                    clear hvM_0 geM_0
                                    have HXM_0 := Aside0.mk hxM_0
                                    clear hccM hceM
                                    have HRM_0 := Aside0.mk hiM_0
                                    have HCM_0 := Aside0.mk hlM_0
                                    clear hiM_0 hlM_0
                                    (try simp only [Go.IntWalk.toNatUp] at hxM_0)
                                    (try simp only [hl4_4, hl6_4, hl4_5, hl6_5, hl4_6, hl6_6] at pM)
                                    (try simp only [hl4_4, hl6_4, hl4_5, hl6_5, hl4_6, hl6_6] at qM)
                                    (try simp only [hl4_4, hl6_4, hl4_5, hl6_5, hl4_6, hl6_6] at hxM_0)
                                    (try simp only [hl4_4, hl6_4, hl4_5, hl6_5, hl4_6, hl6_6] at pM)
                                    (try simp only [hl4_4, hl6_4, hl4_5, hl6_5, hl4_6, hl6_6] at qM)
                                    (try simp only [hl4_4, hl6_4, hl4_5, hl6_5, hl4_6, hl6_6] at hxM_0)
                                    replace pM := eq_true pM
                                    replace qM := eq_true qM
                                    have pAe : 0 ≤ (x14_6 : Int) := oD
                                    have qAe : x14_6 < ((rd_L1 x4_6 (x6_2.length : Int)).length : Int) := oD
                                    obtain ⟨adAe, eAe, hxAe_0⟩ := Kd.at_int (by repeat (first | (with_reducible exact HRM_0.out) | (with_reducible refine Kd.C_alloc ?_ _) | (with_reducible refine Kd.C_drewN ?_ _) | (with_reducible refine Kd.C_drew ?_) | exact HRM_0.out)) x14_6 pAe qAe
                                    cases eAe
                                    (try simp only [hl4_4, hl6_4, hl4_5, hl6_5, hl4_6, hl6_6] at pAe)
                                    (try simp only [hl4_4, hl6_4, hl4_5, hl6_5, hl4_6, hl6_6] at qAe)
                                    (try simp only [hl4_4, hl6_4, hl4_5, hl6_5, hl4_6, hl6_6] at hxAe_0)
                                    replace pAe := eq_true pAe
                                    replace qAe := eq_true qAe
                                    have p77 : 0 ≤ (x14_6 : Int) := oD
                                    have q77 : (x14_6 : Int) < (((rd_L1 x4_6 xF_5).length : Int) : Int) := oD
                                    obtain ⟨go77, co77, eo77, gb77, gl77, cl77, HG77⟩ := Kd.R_form HLI_0.out (by omega)
                                    (first | cases eo77 | (injection eo77 with ea_ en_ ec_; (first | subst ea_ | (injection ea_ with ea_; subst ea_)); subst ec_; clear en_))
                                    have GB77 := Aside0.mk gb77
                                    have GG77 := Aside0.mk HG77
                                    clear gb77 gl77 HG77
                                    (first | simp only [add_plain] at hxAh_0 | skip)
                                    obtain ⟨hx77_0, hf77_0⟩ := Kd.R_celln 0 HLI_0.out (x14_6 : Int) p77 q77
                                    (try simp only [hl4_4, hl6_4, hl4_5, hl6_5, hl4_6, hl6_6] at p77)
                                    (try simp only [hl4_4, hl6_4, hl4_5, hl6_5, hl4_6, hl6_6] at q77)
                                    (try simp only [hl4_4, hl6_4, hl4_5, hl6_5, hl4_6, hl6_6] at hx77_0)
                                    replace p77 := eq_true p77
                                    replace q77 := eq_true q77
                                    have hq81 : (xF_5 : Int) < (x4_6.length : Int) := (by have h_ : (xF_5 : Int) < ((x4_6.length : Int) : Int) := oD; first | exact h_ | (have e_ := (Kd.S_reads' HO_4.out).1; omega) | simpa only [List.length_set, List.length_set] using h_)
                                    obtain ⟨oki81, ce81, hcl81, hM81, hcc81, hok81, hbk81⟩ := Kd.S_borrow HO_4.out [] (xF_5 : Int) (oD) hq81
                                    obtain ⟨ve81_0, rfl, ge81_0⟩ := hM81
                                    have hv81 := hcc81 0 _ rfl
                                    rw [Nat.add_zero, show ((Kd.slice 3 (Kd.int .i64))).sz = 1 from rfl, Nat.mul_one] at hv81
                                    replace hv81 := Option.some.inj (hv81.symm.trans HXI_0.out)
                                    subst hv81
                                    clear hcc81 hcl81
                                    replace ge81_0 := (show Kd.R (Kd.int .i64) 3 _ _ _ _ (rd_L1 x4_6 xF_5) from ge81_0)
                                    have HP81 := Kd.R_putg ge81_0 (x14_6 : Int) (Int.tmod (wrap64 ((rd (rd_L1 x4_6 xF_5) x14_6) + (wrap64 ((wrap64 (a0_0 - (rd (rd_L1 x4_5 xF_5) x7_2))) * (rd (rd_L1 x4_6 (x6_2.length : Int)) x14_6))))) a0_0)
                                    rw [← NyAo.out] at HP81
                                    have HS81 := hbk81 HP81.2 (fun k_ e_ => by injection e_ with e_; subst e_; exact ge81_0.1 _ rfl) (x' := yAo) (Kd.M_row HP81.1)
                                    rw [← NyAt.out] at HS81
                                    have HQ81 := Aside0.mk HS81
                                    clear HP81 HS81 hbk81 hok81
                                    (try simp only [hl4_4, hl6_4, hl4_5, hl6_5, hl4_6, hl6_6] at HQ81)
                                    refine start_ (n := 30) (S := fun w' => w'.cell? ⟨gbA, 0, none⟩ = some (.int .i64 a0_0) ∧ w'.cell? ⟨gbA, 1, none⟩ = some (.int .i64 a0_1) ∧ w'.cell? ⟨gbA, 2, none⟩ = some (.int .i64 a0_2) ∧ w'.cell? ⟨gbA, 3, none⟩ = some (.slice A0_3 l0_3.length c0_3) ∧ w'.cell? (adE.add (xF_5).toNat) = some (.slice (some (⟨go77, 0, none⟩ : Addr)) (rd_L1 x4_6 xF_5).length cI_0) ∧ w'.cell? (adE.add (xF_5).toNat) = some (.slice (some (⟨go77, 0, none⟩ : Addr)) (rd_L1 x4_6 xF_5).length cI_0) ∧ w'.cell? ⟨go77, (x14_6).toNat, none⟩ = some (.int .i64 (rd (rd_L1 x4_6 xF_5) x14_6)) ∧ w'.cell? (adE.add x6_6.length) = some (.slice (some adAe) (rd_L1 x4_6 (x6_6.length : Int)).length cM_0) ∧ w'.cell? (adAe.add (x14_6).toNat) = some (.int .i64 (rd (rd_L1 x4_6 (x6_6.length : Int)) x14_6))) (ds := [29]) #[false, false, false, false, false, false, false, false, false, false, false, false, false, false, false, false, false, false, false, false, false, false, false, false, false, false, false, false, false, false] kr rfl rfl ⟨(blk_cell BKA.out 0).trans rfl, (blk_cell BKA.out 1).trans rfl, (blk_cell BKA.out 2).trans rfl, (blk_cell BKA.out 3).trans rfl, hxI_0, hxQ_0, hxAh_0, hxM_0, hxAe_0⟩ (fun hHeld => ?_); refine with_tabW impl_reduce.tab29 impl_reduce.bits29 (fun HT_ HW_ => ?_)
                                    generalize wr.drew = w80 at HO_4 HO_6 BKA BKB HB GG77 HLI_0 HLQ_0 HLM_0 HQ81 HRI_0 HRQ_0 HRM_0 HXI_0 HXQ_0 HXM_0 hf77_0 hxI_0 hxQ_0 hxAh_0 hxM_0 hxAe_0 hx77_0 hHeld ⊢
                                    refine pA 0 146 (any_of HT_.out kr) ?_
                                    refine pA 1 147 (any_of HT_.out kr) ?_
                                    refine pA 2 148 (any_of HT_.out kr) ?_
                                    refine pA 4 150 (any_of HT_.out kr) ?_
                                    refine pA 5 151 (any_of HT_.out kr) ?_
                                    refine pA 6 152 (any_of HT_.out kr) ?_
                                    refine pA 7 153 (any_of HT_.out kr) ?_
                                    refine pA 9 155 (any_of HT_.out kr) ?_
                                    refine pA 12 158 (any_of HT_.out kr) ?_
                                    refine pA 14 160 (any_of HT_.out kr) ?_
                                    refine pA 16 162 (any_of HT_.out kr) ?_
                                    refine pA 17 163 (any_of HT_.out kr) ?_
                                    refine pA 18 164 (any_of HT_.out kr) ?_
                                    refine pA 20 166 (any_of HT_.out kr) ?_
                                    refine pA 25 171 (any_of HT_.out kr) ?_
                                    refine tA9 3 149 (take_ofW HT_.out HW_.out kr) hHeld ?_
                                    refine tA9 8 154 (take_ofW HT_.out HW_.out kr) hHeld ?_
                                    refine pA 10 156 (any_of HT_.out kr) ?_
                                    refine tA9 11 157 (take_ofW HT_.out HW_.out kr) hHeld ?_
                                    refine tA9 13 159 (take_ofW HT_.out HW_.out kr) hHeld ?_
                                    refine pA 15 161 (any_of HT_.out kr) ?_
                                    refine tA9 19 165 (take_ofW HT_.out HW_.out kr) hHeld ?_
                                    refine pA 21 167 (any_of HT_.out kr) ?_
                                    refine tA9 22 168 (take_ofW HT_.out HW_.out kr) hHeld ?_
                                    refine pA 23 169 (any_of HT_.out kr) ?_
                                    refine pA 24 170 (any_of HT_.out kr) ?_
                                    refine tA9 26 172 (take_ofW HT_.out HW_.out kr) hHeld ?_
                                    refine pA 27 173 (any_of HT_.out kr) ?_
                                    refine pA 28 174 (any_of HT_.out kr) ?_
                                    refine last_ (i := 29) (N := none) #[true, true, true, true, true, true, true, true, true, true, true, true, true, true, true, true, true, true, true, true, true, true, true, true, true, true, true, true, true, true] rfl rfl (one_of HT_.out kr) (by decide) (fun K hK => ?_)
                                    refine skip_ (w1 := ?_) (by rfl) rfl ?_ ?_
                                    rotate_left
                                    ·go_simp
                                     rfl
                                    refine hK.out _ _ ?_
                                    clear hK K
                                    refine done_ (done_of HT_.out kr) ?_
                                    try go_wp2
                                    (try simp only [← hl4_6, ← hl6_6])
                                    go_roundg k6
                                    case measure => have := HK1.out; have := HK2.out; have := HJ26.out; have := HK4.out; have := HK5.out; have := HK6.out; omega
                                    case rel => exact ⟨(yAt), (x6_6), (wrap64 (x14_6 + 1)), p7, H', ⟨by have := HK1.out; have := HK2.out; have := HJ26.out; have := HK4.out; have := HK5.out; have := HK6.out; omega⟩, ⟨by (try simp only [hl4_4]); (try simp only [hl6_4]); (try simp only [hl4_5]); (try simp only [hl6_5]); (try simp only [hl4_6]); (try simp only [hl6_6]); (with_reducible repeat (first | apply Kd.S_alloc | apply Kd.S_drewN | apply Kd.S_drew)); exact HQ81.out⟩, ⟨by (try simp only [hl4_4]); (try simp only [hl6_4]); (try simp only [hl4_5]); (try simp only [hl6_5]); (try simp only [hl4_6]); (try simp only [hl6_6]); (with_reducible repeat (first | apply Kd.R_alloc | apply Kd.R_drewN | apply Kd.R_drew)); exact Kd.R_mono (Kd.R_far (p := ⟨go77, (x14_6 : Int).toNat, none⟩) (Kd.R_far1 HO_6.out rfl ((HLI_0.out.1 _ rfl).1)) (fun _ hk => hk.2) (.int .i64 (Int.tmod (wrap64 ((rd (rd_L1 x4_6 xF_5) x14_6) + (wrap64 ((wrap64 (a0_0 - (rd (rd_L1 x4_5 xF_5) x7_2))) * (rd (rd_L1 x4_6 (x6_6.length : Int)) x14_6))))) a0_0))) (fun _ hk => trivial)⟩, ⟨by (try simp only [hl4_4]); (try simp only [hl6_4]); (try simp only [hl4_5]); (try simp only [hl6_5]); (try simp only [hl4_6]); (try simp only [hl6_6]); (with_reducible repeat (first | refine blk_drewN ?_ _ | refine blk_drew ?_ | refine blk_alloc ?_ _)); refine blk_far ?_ (by have h_ := Kd.R_ne HLI_0.out BKA.out (by decide); intro e_; exact h_ (by rw [e_]; rfl)) _; (with_reducible repeat (first | refine blk_drewN ?_ _ | refine blk_drew ?_ | refine blk_alloc ?_ _)); exact BKA.out⟩, ⟨by (try simp only [hl4_4]); (try simp only [hl6_4]); (try simp only [hl4_5]); (try simp only [hl6_5]); (try simp only [hl4_6]); (try simp only [hl6_6]); (with_reducible repeat (first | refine blk_drewN ?_ _ | refine blk_drew ?_ | refine blk_alloc ?_ _)); refine blk_far ?_ (by have h_ := Kd.R_ne HLI_0.out BKB.out (by decide); intro e_; exact h_ (by rw [e_]; rfl)) _; (with_reducible repeat (first | refine blk_drewN ?_ _ | refine blk_drew ?_ | refine blk_alloc ?_ _)); exact BKB.out⟩, ⟨by repeat (first | (with_reducible first | exact HB.out | apply below_alloc | apply pw_below_drewN | apply below_drew1 | refine below_set ?_ GB77.out | refine below_set ?_ GEA.out | refine below_set ?_ GEB.out) | exact HB.out)⟩⟩
                                  ·rw [if_neg c75] at H
                                   exact absurd H (by simp)
                                 ·rw [if_neg c74] at H
                                  exact absurd H (by simp)
                                ·rw [if_neg c73] at H
                                 exact absurd H (by simp)
                               ·rw [if_neg c72] at H
                                exact absurd H (by simp)
                              ·rw [if_neg c71] at H
                               exact absurd H (by simp)
                             ·rw [if_neg c70] at H
                              exact absurd H (by simp)
                            ·rw [if_neg c69] at H
                             exact absurd H (by simp)
                          ·rw [if_neg c65] at H
                           have c65b0 : decide (x14_6 < a0_2) = false := decide_eq_false c65
                           clear c65
                           have H' := Aside0.mk H
                           clear H
                           have hnb83 := NBA_B.out
                           have hnc83 := NBB_A.out
                           obtain ⟨hcz84_0, hcz84_1, hcz84_2, hcz84_3, hfz84_0, hfz84_1, hfz84_2, hfz84_3⟩ := bc4 BKA.out
                           go_wp2
                           (try simp only [← hl4_5, ← hl6_5, ← hl4_6, ← hl6_6])
                           go_roundg k6
                           case measure => have := HK1.out; have := HK2.out; have := HJ26.out; have := HK4.out; have := HK5.out; have := HK6.out; omega
                           case rel => exact ⟨(x4_6), (x6_6), (wrap64 (xF_5 + 1)), p7, H', ⟨by have := HK1.out; have := HK2.out; have := HJ26.out; have := HK4.out; have := HK5.out; have := HK6.out; omega⟩, ⟨by (try simp only [hl4_4]); (try simp only [hl6_4]); (try simp only [hl4_5]); (try simp only [hl6_5]); (try simp only [hl4_6]); (try simp only [hl6_6]); (with_reducible repeat (first | apply Kd.S_alloc | apply Kd.S_drewN | apply Kd.S_drew)); exact HO_4.out⟩, ⟨by (try simp only [hl4_4]); (try simp only [hl6_4]); (try simp only [hl4_5]); (try simp only [hl6_5]); (try simp only [hl4_6]); (try simp only [hl6_6]); (with_reducible repeat (first | apply Kd.R_alloc | apply Kd.R_drewN | apply Kd.R_drew)); exact HO_6.out⟩, ⟨by (try simp only [hl4_4]); (try simp only [hl6_4]); (try simp only [hl4_5]); (try simp only [hl6_5]); (try simp only [hl4_6]); (try simp only [hl6_6]); (with_reducible repeat (first | refine blk_drewN ?_ _ | refine blk_drew ?_ | refine blk_alloc ?_ _)); exact BKA.out⟩, ⟨by (try simp only [hl4_4]); (try simp only [hl6_4]); (try simp only [hl4_5]); (try simp only [hl6_5]); (try simp only [hl4_6]); (try simp only [hl6_6]); (with_reducible repeat (first | refine blk_drewN ?_ _ | refine blk_drew ?_ | refine blk_alloc ?_ _)); exact BKB.out⟩, ⟨pB⟩⟩
                       ·rw [if_neg c64] at H
                        exact absurd H (by simp)
                      ·rw [if_neg c63] at H
                       exact absurd H (by simp)
                     ·rw [if_neg c62] at H
                      exact absurd H (by simp)
                    ·rw [if_neg c61] at H
                     exact absurd H (by simp)
                   ·rw [if_neg c60] at H
                    have c60b0 : decide (xF_5 < (x4_4.length : Int)) = false := decide_eq_false c60
                    have c60b0q := c60b0
                    (try simp only [hl4_4, hl6_4, hl4_5, hl6_5] at c60b0q)
                    clear c60
                    by_cases c85 : x6_5.length < 17592186044416
                    ·rw [if_pos c85] at H
                     have LMc85 := Aside0.mk c85
                     clear c85
                     obtain ⟨yAu, hyAu⟩ : ∃ y_ : List Int, y_ = (x6_5 ++ [x7_2]) := ⟨_, rfl⟩
                     replace H : (impl_reduce.l1 k5 x4_5 yAu (wrap64 (x7_2 + 1)) a0_0 a0_1 a0_2 l0_3) = some (r1, r2, r3, r4, r5) := yR hyAu H
                     have NyAu := Aside0.mk hyAu
                     clear hyAu
                     have H' := Aside0.mk H
                     clear H
                     go_wp2_with (first | ((with_reducible refine gate_builtin (b := .append) (xs := #[.tmp 176, .tmp 178]) rfl ?_); at_builtin; refine Kd.R_append (Kd.int .i64) (w0 := w) w.heap.size rfl (.tmp 176) (.tmp 178) 22 3 (.int .i64 0) 8 rfl Try.underlying22 info3 rfl (by decide) (by omega) (.slice Ao30 x6_5.length co30) x6_5 x7_2 [.int .i64 x7_2] (fun _ => True) (fun _ => False) rfl rfl ?aP (fun _ hk => hk.elim) ?aF ?aO ?aB ?aS ?aL ?_; (case aP => exact rfl); (case aB => exact pB); (case aF => exact (fun _ _ => trivial)); (case aO => exact (pR HO_6.out)); (case aS => exact (below_size pB)); (case aL => have := LMc85.out; omega); intro vCa w86 ho hb hg hat; rw [← NyAu.out] at ho; have n0_ := Aside0.mk (Kd.S_after (ok := (fun _ => True)) (by (with_reducible repeat (first | apply Kd.S_alloc | apply Kd.S_drewN | apply Kd.S_drew)); exact Kd.S_mono HO_4.out (fun _ hk => ⟨trivial, hk⟩)) hg hat); have n1_ := Aside0.mk (blk_grown (g := gbA) (o := .cells #[.int .i64 a0_0, .int .i64 a0_1, .int .i64 a0_2, .slice A0_3 l0_3.length c0_3] 32 (0, 0)) (pK BKA.out) hg (Kd.R_ne HO_6.out BKA.out (by decide))); have n2_ := Aside0.mk (blk_grown (g := gbB) (o := .cells #[.int .i64 0, .int .i64 0, .int .i64 0, .slice none 0 0] 32 (0, 0)) (pK BKB.out) hg (Kd.R_ne HO_6.out BKB.out (by decide))); have n3_ := Aside0.mk (hb); have n4_ := Aside0.mk (ho); clear HO_4; clear BKA; clear BKB; clear HB; clear HO_6; have HO_4 := n0_; have BKA := n1_; have BKB := n2_; have HB := n3_; have HOBp := n4_; clear n0_ n1_ n2_ n3_ n4_; clear ho hb hg hat))
                     (try simp only [← hl4_4, ← hl6_4, ← hl4_5, ← hl6_5])
                     obtain rfl := Option.some.inj HAo.out
                     go_roundg k5
                     case measure => have := HK1.out; have := HK2.out; have := HJ26.out; have := HK4.out; have := HK5.out; omega
                     case rel => exact ⟨(x4_5), (yAu), (wrap64 (x7_2 + 1)), p7, H', ⟨by have := HK1.out; have := HK2.out; have := HJ26.out; have := HK4.out; have := HK5.out; omega⟩, ⟨by (try simp only [hl4_4]); (try simp only [hl6_4]); (try simp only [hl4_5]); (try simp only [hl6_5]); (with_reducible repeat (first | apply Kd.S_alloc | apply Kd.S_drewN | apply Kd.S_drew)); exact Kd.S_mono HO_4.out (fun _ hk => hk.2)⟩, ⟨by (try simp only [hl4_4]); (try simp only [hl6_4]); (try simp only [hl4_5]); (try simp only [hl6_5]); (with_reducible repeat (first | apply Kd.R_alloc | apply Kd.R_drewN | apply Kd.R_drew)); exact HOBp.out⟩, ⟨by (try simp only [hl4_4]); (try simp only [hl6_4]); (try simp only [hl4_5]); (try simp only [hl6_5]); (with_reducible repeat (first | refine blk_drewN ?_ _ | refine blk_drew ?_ | refine blk_alloc ?_ _)); exact BKA.out⟩, ⟨by (try simp only [hl4_4]); (try simp only [hl6_4]); (try simp only [hl4_5]); (try simp only [hl6_5]); (with_reducible repeat (first | refine blk_drewN ?_ _ | refine blk_drew ?_ | refine blk_alloc ?_ _)); exact BKB.out⟩, ⟨pB⟩⟩
                    ·rw [if_neg c85] at H
                     exact absurd H (by simp)
             ·rw [if_neg c45] at H
              exact absurd H (by simp)
            ·rw [if_neg c44] at H
             exact absurd H (by simp)
           ·rw [if_neg c43] at H
            exact absurd H (by simp)
          ·rw [if_neg c42] at H
           exact absurd H (by simp)
      ·rw [if_neg c26] at H
       have c26b0 : decide (x7_2 < a0_2) = false := decide_eq_false c26
       clear c26
       obtain ⟨yAb, hyAb⟩ : ∃ y_ : List Int, y_ = (([] : List Int)) := ⟨_, rfl⟩
       replace H : (if 0 ≤ (x6_2.length : Int) then (if (x6_2.length : Int) ≤ (x4_2.length : Int) then ((some (x4_2.take ((x6_2.length : Int) : Int).toNat : List (List Int))).bind fun yV => (impl_reduce.l6 k2 x6_2 yV (yV.length : Int) 0 a0_0 (x6_2.length : Int) a0_2 yAb)) else (none)) else (none)) = some (r1, r2, r3, r4, r5) := yR hyAb H
       have NyAb := Aside0.mk hyAb
       clear hyAb
       by_cases c87 : 0 ≤ (x6_2.length : Int)
       ·rw [if_pos c87] at H
        have c87b0 := eq_true c87
        have c87b1 : decide (0 ≤ (x6_2.length : Int)) = true := decide_eq_true c87
        clear c87
        by_cases c88 : (x6_2.length : Int) ≤ (x4_2.length : Int)
        ·rw [if_pos c88] at H
         have c88b0 := eq_true c88
         have c88b1 : decide ((x6_2.length : Int) ≤ (x4_2.length : Int)) = true := decide_eq_true c88
         clear c88
         obtain ⟨yV, hyV⟩ : ∃ y_ : List (List Int), y_ = (x4_2.take ((x6_2.length : Int) : Int).toNat) := ⟨_, rfl⟩
         replace H : (impl_reduce.l6 k2 x6_2 yV (yV.length : Int) 0 a0_0 (x6_2.length : Int) a0_2 yAb) = some (r1, r2, r3, r4, r5) := yR hyV H
         have NyV := Aside0.mk hyV
         clear hyV
         have H' := Aside0.mk H
         clear H
         have hnb89 := NBA_B.out
         have hnc89 := NBB_A.out
         obtain ⟨hcz90_0, hcz90_1, hcz90_2, hcz90_3, hfz90_0, hfz90_1, hfz90_2, hfz90_3⟩ := bc4 BKA.out
         obtain ⟨Ao91, co91, eo91⟩ := Kd.R_slice HO_6.out
         subst eo91
         go_wp2_with (first | ((with_reducible refine gate_dst (N := 186) rfl ?_); refine Kd.R_lit (Kd.int .i64) _ 3 ?hg (N := 186) ?hd (xs := ([] : List Int)) (inner := []) (ok := fun _ => True) (okp := fun _ => True) ?hr ?hp (fun _ hk => hk) trivial (Below.refl _ _) (Nat.le_refl _) (by simp) ?_; (case hd => rfl); (case hg => rfl); (case hr => first | (go_simp; done) | (go_simp; rfl)); (case hp => exact (Reps.none _ _)); intro vCb w92 ho93 hb hg_ hnew_; clear hg_ hnew_; (first | rw [← NyAb.out] at ho93 | (simp only [Int.reduceToNat] at ho93; rw [← NyAb.out] at ho93)); replace HO_4 := Aside0.mk (Kd.S_elder' (by (with_reducible repeat (first | apply Kd.S_alloc | apply Kd.S_drewN | apply Kd.S_drew)); exact HO_4.out) (Kd.R_base ho93) hb); have HOAw := Aside0.mk (Kd.R_lower (Kd.R_new' ho93 (Kd.R_lt (pR HO_6.out))) (below_size pB)); replace HO_6 := Aside0.mk (Kd.R_elder' (pR HO_6.out) (Kd.R_base ho93) hb); replace BKA := aB BKA hb; replace BKB := aB BKB hb; replace HB := aH hb; clear hb ho93; obtain ⟨Ao94, co94, eo94⟩ := Kd.R_slice HOAw.out; subst eo94) | (refine bE 15 #[.int .i64 0, .int .i64 0, .int .i64 0, .slice none 0 0] 32 ?_; intro gbJ hg w95 hbox hb; replace HO_4 := Aside0.mk (Kd.S_below (by (with_reducible repeat (first | apply Kd.S_alloc | apply Kd.S_drewN | apply Kd.S_drew)); exact HO_4.out) hb); replace HO_6 := aR HO_6 hb; replace HOAw := aR HOAw hb; have BKJ := Aside0.mk hbox; have GWJ := aZ w hg; have GEJ := aZ w hg; replace HB := aH hb; have NBA_J := aL BKA hg; have NBJ_A := aG BKA hg; replace BKA := aB BKA hb; have NBB_J := aL BKB hg; have NBJ_B := aG BKB hg; replace BKB := aB BKB hb; clear hb hbox hg; have hnb96 := NBJ_A.out; have hnc96 := NBA_J.out; have hnb97 := NBJ_B.out; have hnc97 := NBB_J.out; obtain ⟨hcz98_0, hcz98_1, hcz98_2, hcz98_3, hfz98_0, hfz98_1, hfz98_2, hfz98_3⟩ := bc4 BKJ.out) | ((with_reducible refine gate_store (t := 32) (p := 15) rfl ?_); refine store_event (t := 32) (p := 15) (v := ?vo_w99) (w1 := ((((w95.setCell ⟨gbJ, 0, none⟩ (.int .i64 a0_0)).setCell ⟨gbJ, 1, none⟩ (.int .i64 (x6_2.length : Int))).setCell ⟨gbJ, 2, none⟩ (.int .i64 a0_2)).setCell ⟨gbJ, 3, none⟩ (.slice Ao94 yAb.length co94))) ?hg ?ho ?hn ?hr ?_; (case ho => rfl); (case hg => rfl); (case hn => rfl); (case hr => first | (go_simp; done) | (go_simp; rfl)); intro w99 hw; have n0_ : Aside0 (Kd.S (Kd.slice 3 (Kd.int .i64)) 22 w99 w.heap.size (fun k_ => some k_ ≠ (.slice Ao91 x6_2.length co91 : Value).ownBlock ∧ some k_ ≠ (.slice Ao94 yAb.length co94 : Value).ownBlock) u4 x4_2) := ⟨(by rw [hw]; exact (by (with_reducible repeat (first | apply Kd.S_alloc | apply Kd.S_drewN | apply Kd.S_drew)); exact Kd.S_mono (Kd.S_far (p := ⟨gbJ, 3, none⟩) (Kd.S_far (p := ⟨gbJ, 2, none⟩) (Kd.S_far (p := ⟨gbJ, 1, none⟩) (Kd.S_far (p := ⟨gbJ, 0, none⟩) (Kd.S_types HO_4.out BKJ.out (by decide)) (fun _ hk => hk.2) (.int .i64 a0_0)) (fun _ hk => hk.2) (.int .i64 (x6_2.length : Int))) (fun _ hk => hk.2) (.int .i64 a0_2)) (fun _ hk => hk.2) (.slice Ao94 yAb.length co94)) (fun _ hk => ⟨hk.1.1, hk.1.2⟩)))⟩; have n1_ : Aside0 (Kd.R (Kd.int .i64) 3 w99 w.heap.size (fun k_ => some k_ ≠ (.slice Ao94 yAb.length co94 : Value).ownBlock) (.slice Ao91 x6_2.length co91) x6_2) := ⟨(by rw [hw]; exact (by (with_reducible repeat (first | apply Kd.R_alloc | apply Kd.R_drewN | apply Kd.R_drew)); exact Kd.R_mono (Kd.R_far (p := ⟨gbJ, 3, none⟩) (Kd.R_far (p := ⟨gbJ, 2, none⟩) (Kd.R_far (p := ⟨gbJ, 1, none⟩) (Kd.R_far (p := ⟨gbJ, 0, none⟩) (Kd.R_types HO_6.out BKJ.out (by decide)) (fun _ hk => hk.2) (.int .i64 a0_0)) (fun _ hk => hk.2) (.int .i64 (x6_2.length : Int))) (fun _ hk => hk.2) (.int .i64 a0_2)) (fun _ hk => hk.2) (.slice Ao94 yAb.length co94)) (fun _ hk => hk.1.2)))⟩; have n2_ : Aside0 (Kd.R (Kd.int .i64) 3 w99 w.heap.size (fun k_ => some k_ ≠ (.slice Ao91 x6_2.length co91 : Value).ownBlock) (.slice Ao94 yAb.length co94) yAb) := ⟨(by rw [hw]; exact (by (with_reducible repeat (first | apply Kd.R_alloc | apply Kd.R_drewN | apply Kd.R_drew)); exact Kd.R_mono (Kd.R_far (p := ⟨gbJ, 3, none⟩) (Kd.R_far (p := ⟨gbJ, 2, none⟩) (Kd.R_far (p := ⟨gbJ, 1, none⟩) (Kd.R_far (p := ⟨gbJ, 0, none⟩) (Kd.R_types HOAw.out BKJ.out (by decide)) (fun _ hk => hk.2) (.int .i64 a0_0)) (fun _ hk => hk.2) (.int .i64 (x6_2.length : Int))) (fun _ hk => hk.2) (.int .i64 a0_2)) (fun _ hk => hk.2) (.slice Ao94 yAb.length co94)) (fun _ hk => hk.1.2)))⟩; have n3_ : Aside0 (w99.heap[gbA]? = some (.cells #[.int .i64 a0_0, .int .i64 a0_1, .int .i64 a0_2, .slice A0_3 l0_3.length c0_3] 32 (0, 0))) := ⟨(by rw [hw]; exact (qK BKA.out))⟩; have n4_ : Aside0 (w99.heap[gbB]? = some (.cells #[.int .i64 0, .int .i64 0, .int .i64 0, .slice none 0 0] 32 (0, 0))) := ⟨(by rw [hw]; exact (qK BKB.out))⟩; have n5_ : Aside0 (w99.heap[gbJ]? = some (.cells #[.int .i64 a0_0, .int .i64 (x6_2.length : Int), .int .i64 a0_2, .slice Ao94 yAb.length co94] 32 (0, 0))) := ⟨(by rw [hw]; exact (by (with_reducible repeat (first | refine blk_drewN ?_ _ | refine blk_drew ?_ | refine blk_alloc ?_ _)); refine blk_put (cs := #[.int .i64 a0_0, .int .i64 (x6_2.length : Int), .int .i64 a0_2, .slice none 0 0]) ?_ 3 _ rfl; (with_reducible repeat (first | refine blk_drewN ?_ _ | refine blk_drew ?_ | refine blk_alloc ?_ _)); refine blk_put (cs := #[.int .i64 a0_0, .int .i64 (x6_2.length : Int), .int .i64 0, .slice none 0 0]) ?_ 2 _ rfl; (with_reducible repeat (first | refine blk_drewN ?_ _ | refine blk_drew ?_ | refine blk_alloc ?_ _)); refine blk_put (cs := #[.int .i64 a0_0, .int .i64 0, .int .i64 0, .slice none 0 0]) ?_ 1 _ rfl; (with_reducible repeat (first | refine blk_drewN ?_ _ | refine blk_drew ?_ | refine blk_alloc ?_ _)); refine blk_put (cs := #[.int .i64 0, .int .i64 0, .int .i64 0, .slice none 0 0]) ?_ 0 _ rfl; exact pK BKJ.out))⟩; have n6_ : Aside0 (Below w.heap.size w w99) := ⟨(by rw [hw]; exact pB)⟩; clear hw; clear HO_4; clear HO_6; clear HOAw; clear BKA; clear BKB; clear BKJ; clear HB; have HO_4 := n0_; have HO_6 := n1_; have HOAw := n2_; have BKA := n3_; have BKB := n4_; have BKJ := n5_; have HB := n6_; clear n0_ n1_ n2_ n3_ n4_ n5_ n6_; obtain ⟨AoU, coU, eoU⟩ := Kd.S_slice HO_4.out; subst eoU; have qW : ((x6_2.length : Int) : Int) ≤ ((x4_2.length : Int) : Int) := oD; obtain ⟨iBj, hiBj, _, hszW, _⟩ := info_parts info22; have hroomW : x4_2.length ≤ coU := (Kd.S_reads' HO_4.out).2.1; have hCW : Kd.C (Kd.slice 3 (Kd.int .i64)) _ AoU x4_2.length x4_2 := (Kd.S_reads' HO_4.out).2.2; have hcutW := cut_to (P := Try.prog) 74 22 .i64 Try.underlying74 hiBj AoU x4_2.length coU (x6_2.length : Int) (oD) qW hroomW; have hrW := Kd.C_take (m := ((x6_2.length : Int) : Int).toNat) hCW (by omega); have hyW : yV.length = ((x6_2.length : Int) : Int).toNat := (by rw [NyV.out, List.length_take]; omega); rw [← NyV.out] at hrW; rw [← hyW] at hcutW; have HRBq := Aside0.mk hrW; have HCBq := Aside0.mk (show yV.length ≤ coU from by omega); clear hrW hCW hroomW hiBj hszW; have KYW := Aside0.mk hyW; clear hyW; have KLW := Aside0.mk (show ((x6_2.length : Int) : Int).toNat ≤ x4_2.length from by omega); replace qW := eq_true qW))
         go_loopg [193] k2 (fun kq vAc w' => ∃ (xAc_3 : Int) (xX_3 : List Int) (uX : Value), vAc = .int .i64 xAc_3 ∧ Aside0 (impl_reduce.l6 kq x6_2 yV (yV.length : Int) xAc_3 a0_0 (x6_2.length : Int) a0_2 xX_3 = some (r1, r2, r3, r4, r5)) ∧ Aside0 (kq ≤ k2) ∧ Aside0 (Kd.R (Kd.int .i64) 3 w' w.heap.size (fun k_ => some k_ ≠ (uX : Value).ownBlock) (.slice Ao91 x6_2.length co91) x6_2) ∧ Aside0 (Kd.R (Kd.int .i64) 3 w' w.heap.size (fun k_ => some k_ ≠ ((.slice Ao91 x6_2.length co91) : Value).ownBlock) uX xX_3) ∧ Aside0 (w'.heap[gbA]? = some (.cells #[.int .i64 a0_0, .int .i64 a0_1, .int .i64 a0_2, (.slice A0_3 l0_3.length c0_3)] 32 (0, 0))) ∧ Aside0 (w'.heap[gbB]? = some (.cells #[.int .i64 0, .int .i64 0, .int .i64 0, (.slice none 0 0)] 32 (0, 0))) ∧ Aside0 (w'.heap[gbJ]? = some (.cells #[.int .i64 a0_0, .int .i64 (x6_2.length : Int), .int .i64 a0_2, uX] 32 (0, 0))) ∧ Aside0 (Kd.S (Kd.slice 3 (Kd.int .i64)) 22 w' w.heap.size (fun k_ => k_ ≠ gbJ ∧ some k_ ≠ (uX : Value).ownBlock) (.slice AoU x4_2.length coU) x4_2) ∧ Aside0 (Below w.heap.size w w'))
         case atStart => exact ⟨(0), (yAb), (.slice Ao94 yAb.length co94), p7, H', ⟨Nat.le_refl _⟩, ⟨pR HO_6.out⟩, ⟨pR HOAw.out⟩, ⟨pK BKA.out⟩, ⟨pK BKB.out⟩, ⟨pK BKJ.out⟩, ⟨by (with_reducible repeat (first | apply Kd.S_alloc | apply Kd.S_drewN | apply Kd.S_drew)); exact Kd.S_mono (Kd.S_types HO_4.out BKJ.out (by decide)) (fun k_ hk => ⟨hk.2, by first | exact hk.1.2 | exact hk.1 | exact hk.1.1.2⟩)⟩, ⟨pB⟩⟩
         case round =>
          clear H'
          try clear c6
          try clear c26
          try clear c26b0
          try clear c87
          try clear c87b0
          try clear c87b1
          try clear c88
          try clear c88b0
          try clear c88b1
          try clear qW
          try clear hcz90_0
          try clear hcz90_1
          try clear hcz90_2
          try clear hcz90_3
          try clear hcz98_0
          try clear hcz98_1
          try clear hcz98_2
          try clear hcz98_3
          try clear hfz90_0
          try clear hfz90_1
          try clear hfz90_2
          try clear hfz90_3
          try clear hfz98_0
          try clear hfz98_1
          try clear hfz98_2
          try clear hfz98_3
          try clear qW
          obtain ⟨xAc_3, xX_3, uX, rfl, HA, HK3, HO_6, HO_X, BKA, BKB, BKJ, HSX, HB⟩ := hrel
          cases gk with
          | zero => exact absurd HA.out (by simp [impl_reduce.l6])
          | succ k3 =>
           have H := HA.out
           clear HA
           simp only [impl_reduce.l6] at H
           by_cases cBb : xAc_3 < (yV.length : Int)
           ·rw [if_pos cBb] at H
            have c102b0 : decide (xAc_3 < (yV.length : Int)) = true := decide_eq_true cBb
            clear cBb
            by_cases cBf : 0 ≤ xAc_3
            ·rw [if_pos cBf] at H
             have c103b0 : decide (0 ≤ xAc_3) = true := decide_eq_true cBf
             clear cBf
             by_cases cBg : xAc_3 < (yV.length : Int)
             ·rw [if_pos cBg] at H
              have c104b0 : decide (xAc_3 < (yV.length : Int)) = true := decide_eq_true cBg
              clear cBg
              by_cases cBc : xX_3.length + (rd_L1 yV xAc_3).length < 17592186044416
              ·rw [if_pos cBc] at H
               have LMcBc := Aside0.mk cBc
               clear cBc
               obtain ⟨yAk, hyAk⟩ : ∃ y_ : List Int, y_ = (xX_3 ++ (rd_L1 yV xAc_3)) := ⟨_, rfl⟩
               replace H : (impl_reduce.l6 k3 x6_2 yV (yV.length : Int) (wrap64 (xAc_3 + 1)) a0_0 (x6_2.length : Int) a0_2 yAk) = some (r1, r2, r3, r4, r5) := yR hyAk H
               have NyAk := Aside0.mk hyAk
               clear hyAk
               have H' := Aside0.mk H
               clear H
               have pAa : 0 ≤ (xAc_3 : Int) := oD
               have qAa : xAc_3 < (yV.length : Int) := oD
               have HSR := Aside0.mk (show Kd.C (Kd.slice 3 (Kd.int .i64)) wr AoU yV.length yV from by have h_ := Kd.C_take (m := ((x6_2.length : Int) : Int).toNat) (Kd.S_reads' HSX.out).2.2 (by have := NyV.out; have e_ := congrArg List.length this; rw [List.length_take] at e_; first | omega | (have := KLW.out; omega)); rw [← NyV.out] at h_; have e2_ : yV.length = ((x6_2.length : Int) : Int).toNat := (KYW.out); first | exact h_ | (rw [e2_]; exact h_))
               obtain ⟨adAa, AAa_0, cAa_0, eAa, hxAa_0, hlAa_0, hiAa_0⟩ := at_L1 HSR.out xAc_3 pAa qAa
               cases eAa
               skip
               have HRAa_0 := Aside0.mk hiAa_0
               have HCAa_0 := Aside0.mk hlAa_0
               clear hiAa_0 hlAa_0
               replace pAa := eq_true pAa
               replace qAa := eq_true qAa
               have hnbBr := NBJ_A.out
               have hncBr := NBA_J.out
               have hnbBs := NBJ_B.out
               have hncBs := NBB_J.out
               obtain ⟨hczAx_0, hczAx_1, hczAx_2, hczAx_3, hfzAx_0, hfzAx_1, hfzAx_2, hfzAx_3⟩ := bc4 BKJ.out
               go_wp2_with (first | ((with_reducible refine gate_builtin (b := .append) (xs := #[.tmp 198, .tmp 199]) rfl ?_); at_builtin; refine Kd.R_append_rows (Kd.int .i64) (w0 := w) w.heap.size rfl (.tmp 198) (.tmp 199) 22 3 (.int .i64 0) 8 rfl Try.underlying22 info3 rfl (by decide) (by omega) uX xX_3 (rd_L1 yV xAc_3) _ _ _ (fun k_ => some k_ ≠ (.slice Ao91 x6_2.length co91 : Value).ownBlock) (fun _ => False) rfl rfl ?aO ?aR (fun _ _ h => h) (fun _ h => h.elim) ?aF ?aB ?aS ?aL ?_; (case aR => repeat (first | exact HRAa_0.out | exact (Kd.C_below HRAa_0.out HB.out) | (with_reducible refine Kd.C_alloc ?_ _) | (with_reducible refine Kd.C_drewN ?_ _) | (with_reducible refine Kd.C_drew ?_))); (case aB => exact pB); (case aF => exact (fun k_ hk => Kd.fresh' (Kd.R_lt (pR HO_6.out)) k_ hk)); (case aO => exact (pR HO_X.out)); (case aS => exact (below_size pB)); (case aL => have := LMcBc.out; omega); intro vCc wCd ho hb hg hat; rw [← NyAk.out] at ho; have nS_ := Aside0.mk (Kd.S_after (ok := (fun k_ => k_ ≠ gbJ)) (by (with_reducible repeat (first | apply Kd.S_alloc | apply Kd.S_drewN | apply Kd.S_drew)); exact Kd.S_mono HSX.out (fun _ hk => ⟨hk.1, hk.2⟩)) hg hat); have n0_ := Aside0.mk (Kd.R_after (ok := (fun _ => True)) (by (with_reducible repeat (first | apply Kd.R_alloc | apply Kd.R_drewN | apply Kd.R_drew)); exact Kd.R_mono HO_6.out (fun _ hk => ⟨trivial, hk⟩)) hg hat); have n1_ := Aside0.mk (blk_grown (g := gbA) (o := .cells #[.int .i64 a0_0, .int .i64 a0_1, .int .i64 a0_2, .slice A0_3 l0_3.length c0_3] 32 (0, 0)) (pK BKA.out) hg (Kd.R_ne HO_X.out BKA.out (by decide))); have n2_ := Aside0.mk (blk_grown (g := gbB) (o := .cells #[.int .i64 0, .int .i64 0, .int .i64 0, .slice none 0 0] 32 (0, 0)) (pK BKB.out) hg (Kd.R_ne HO_X.out BKB.out (by decide))); have n3_ := Aside0.mk (blk_grown (g := gbJ) (o := .cells #[.int .i64 a0_0, .int .i64 (x6_2.length : Int), .int .i64 a0_2, uX] 32 (0, 0)) (pK BKJ.out) hg (Kd.R_ne HO_X.out BKJ.out (by decide))); have n4_ := Aside0.mk (hb); have n5_ := Aside0.mk (ho); clear HO_6; clear BKA; clear BKB; clear BKJ; clear HB; clear HO_X; have HO_6 := n0_; have BKA := n1_; have BKB := n2_; have BKJ := n3_; have HB := n4_; have HOBk := n5_; clear n0_ n1_ n2_ n3_ n4_ n5_; clear HSX; have HSX := nS_; clear nS_; clear ho hb hg hat; obtain ⟨AoAp, coAp, eoAp⟩ := Kd.R_slice HOBk.out; subst eoAp; obtain ⟨hczAy_0, hczAy_1, hczAy_2, hczAy_3, hfzAy_0, hfzAy_1, hfzAy_2, hfzAy_3⟩ := bc4 BKJ.out))
               go_roundg k3
               case measure => have := HK1.out; have := HK2.out; have := HK3.out; omega
               case rel => exact ⟨(wrap64 (xAc_3 + 1)), (yAk), (.slice AoAp yAk.length coAp), p7, H', ⟨by have := HK1.out; have := HK2.out; have := HK3.out; omega⟩, ⟨by (with_reducible repeat (first | apply Kd.R_alloc | apply Kd.R_drewN | apply Kd.R_drew)); exact Kd.R_mono (Kd.R_far (p := ⟨gbJ, 3, none⟩) (Kd.R_types HO_6.out BKJ.out (by decide)) (fun _ hk => hk.2) (.slice AoAp yAk.length coAp)) (fun _ hk => hk.1.2)⟩, ⟨by (with_reducible repeat (first | apply Kd.R_alloc | apply Kd.R_drewN | apply Kd.R_drew)); exact Kd.R_mono (Kd.R_far (p := ⟨gbJ, 3, none⟩) (Kd.R_types HOBk.out BKJ.out (by decide)) (fun _ hk => hk.2) (.slice AoAp yAk.length coAp)) (fun _ hk => hk.1)⟩, ⟨qK BKA.out⟩, ⟨qK BKB.out⟩, ⟨by (with_reducible repeat (first | refine blk_drewN ?_ _ | refine blk_drew ?_ | refine blk_alloc ?_ _)); refine blk_put (cs := #[.int .i64 a0_0, .int .i64 (x6_2.length : Int), .int .i64 a0_2, uX]) ?_ 3 _ rfl; (with_reducible repeat (first | refine blk_drewN ?_ _ | refine blk_drew ?_ | refine blk_alloc ?_ _)); exact BKJ.out⟩, ⟨by (with_reducible repeat (first | apply Kd.S_alloc | apply Kd.S_drewN | apply Kd.S_drew)); exact Kd.S_far (p := ⟨gbJ, 3, none⟩) HSX.out (fun _ hk => hk.1) _⟩, ⟨pB⟩⟩
              ·rw [if_neg cBc] at H
               exact absurd H (by simp)
             ·rw [if_neg cBg] at H
              exact absurd H (by simp)
            ·rw [if_neg cBf] at H
             exact absurd H (by simp)
           ·rw [if_neg cBb] at H
            have c102b0 : decide (xAc_3 < (yV.length : Int)) = false := decide_eq_false cBb
            clear cBb
            simp only [Option.some.injEq, Prod.mk.injEq] at H
            obtain ⟨rfl, rfl, rfl, rfl, rfl⟩ := H
            have hnbBt := NBJ_A.out
            have hncBt := NBA_J.out
            have hnbBu := NBJ_B.out
            have hncBu := NBB_J.out
            obtain ⟨hczAz_0, hczAz_1, hczAz_2, hczAz_3, hfzAz_0, hfzAz_1, hfzAz_2, hfzAz_3⟩ := bc4 BKJ.out
            have hnbBv := NBB_A.out
            have hncBv := NBA_B.out
            obtain ⟨hczBa_0, hczBa_1, hczBa_2, hczBa_3, hfzBa_0, hfzBa_1, hfzBa_2, hfzBa_3⟩ := bc4 BKB.out
            obtain ⟨AoAq, coAq, eoAq⟩ := Kd.R_slice HO_X.out
            subst eoAq
            go_wp2
            refine bodyPost_ret (results_ct rfl _ _ gbB 32 #[.int .i64 a0_0, .int .i64 (x6_2.length : Int), .int .i64 a0_2, .slice AoAq xX_3.length coAq] (0, 0) _ rfl (by (with_reducible repeat (first | refine blk_drewN ?_ _ | refine blk_drew ?_ | refine blk_alloc ?_ _)); refine blk_put (cs := #[.int .i64 a0_0, .int .i64 (x6_2.length : Int), .int .i64 a0_2, .slice none 0 0]) ?_ 3 _ rfl; (with_reducible repeat (first | refine blk_drewN ?_ _ | refine blk_drew ?_ | refine blk_alloc ?_ _)); refine blk_put (cs := #[.int .i64 a0_0, .int .i64 (x6_2.length : Int), .int .i64 0, .slice none 0 0]) ?_ 2 _ rfl; (with_reducible repeat (first | refine blk_drewN ?_ _ | refine blk_drew ?_ | refine blk_alloc ?_ _)); refine blk_put (cs := #[.int .i64 a0_0, .int .i64 0, .int .i64 0, .slice none 0 0]) ?_ 1 _ rfl; (with_reducible repeat (first | refine blk_drewN ?_ _ | refine blk_drew ?_ | refine blk_alloc ?_ _)); refine blk_put (cs := #[.int .i64 0, .int .i64 0, .int .i64 0, .slice none 0 0]) ?_ 0 _ rfl; exact pK BKB.out) Try.underlying32 rfl kr) rfl ?_
            exact ⟨_, _, p8, by (with_reducible repeat (first | apply Kd.R_alloc | apply Kd.R_drewN | apply Kd.R_drew)); exact Kd.R_mono (Kd.R_far (p := ⟨gbB, 3, none⟩) (Kd.R_far (p := ⟨gbB, 2, none⟩) (Kd.R_far (p := ⟨gbB, 1, none⟩) (Kd.R_far (p := ⟨gbB, 0, none⟩) (Kd.R_types HO_X.out BKB.out (by decide)) (fun _ hk => hk.2) (.int .i64 a0_0)) (fun _ hk => hk.2) (.int .i64 (x6_2.length : Int))) (fun _ hk => hk.2) (.int .i64 a0_2)) (fun _ hk => hk.2) (.slice AoAq xX_3.length coAq)) (fun _ hk => hk.1), by (with_reducible repeat (first | apply Kd.R_alloc | apply Kd.R_drewN | apply Kd.R_drew)); exact Kd.R_mono (Kd.R_far (p := ⟨gbB, 3, none⟩) (Kd.R_far (p := ⟨gbB, 2, none⟩) (Kd.R_far (p := ⟨gbB, 1, none⟩) (Kd.R_far (p := ⟨gbB, 0, none⟩) (Kd.R_types HO_6.out BKB.out (by decide)) (fun _ hk => hk.2) (.int .i64 a0_0)) (fun _ hk => hk.2) (.int .i64 (x6_2.length : Int))) (fun _ hk => hk.2) (.int .i64 a0_2)) (fun _ hk => hk.2) (.slice AoAq xX_3.length coAq)) (fun _ hk => hk.1), pB⟩
        ·rw [if_neg c88] at H
         exact absurd H (by simp)
       ·rw [if_neg c87] at H
        exact absurd H (by simp)
end Go.Proofs.Ytbhckhblonkajaa.Q
