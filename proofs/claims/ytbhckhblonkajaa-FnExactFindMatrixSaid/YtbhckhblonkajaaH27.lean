/- Proved: the law FnExactFindMatrix returns true for every argument, and each argument reads afterwards as before; no conditions beyond the given row's own. -/
import Derived.Test.YtbhckhblonkajaaRows
import Derived.WalkKit
import Derived.ProofKit
import Derived.OpenShut
import Derived.ShutString
import Derived.ChangeOld
import Derived.Below
import Derived.SizedLaws
import Derived.Lib.SmallJoins
import Derived.ChangeSlices
import Derived.Test.YtbhckhblonkajaaH04
import Derived.Test.YtbhckhblonkajaaH13
import Derived.Test.YtbhckhblonkajaaH14
import Derived.Test.YtbhckhblonkajaaH20
import Derived.Test.YtbhckhblonkajaaH22
import Derived.Test.YtbhckhblonkajaaH23
import Derived.Test.YtbhckhblonkajaaH26
set_option linter.unusedVariables false
set_option linter.unusedSimpArgs false
namespace Go.Proofs.Ytbhckhblonkajaa.Q
open Go.RowKit Go.Proofs.YtbhckhblonkajaaW.PrintWords Go.Proofs.YtbhckhblonkajaaW.PrintLast Go.Proofs.YtbhckhblonkajaaW.PrintMore
theorem spec_HasElement.is {s e : Nat} (hs : s < 256) (he : e < 8) : spec_HasElement.f (s : Int) (e : Int) = some (s.testBit e) := by
  have h : ∀ (s : Fin 256) (e : Fin 8), spec_HasElement.f (s.val : Int) (e.val : Int) = some (s.val.testBit e.val) := by decide +kernel
  exact h ⟨s, hs⟩ ⟨e, he⟩
theorem impl_HasElement.nat {s e : Nat} (hs : s < 256) (he : e < 8) : impl_HasElement.f (s : Int) (e : Int) = some (s.testBit e) := by
  have h : ∀ (s : Fin 256) (e : Fin 8), impl_HasElement.f (s.val : Int) (e.val : Int) = some (s.val.testBit e.val) := by decide +kernel
  exact h ⟨s, hs⟩ ⟨e, he⟩
theorem spec_ElementsOf.is {s : Nat} (hs : s < 256) : Ev (fun k => spec_ElementsOf.f k (s : Int)) (els s) := by
  have key : ∀ d i, i + d = 8 → ∀ acc : List Int, acc.length ≤ i → Ev (fun k => spec_ElementsOf.l0 k (s : Int) acc (i : Int)) (acc ++ elsFrom s i d) := by
    intro d
    induction d with
    | zero =>
      intro i hi acc ha
      refine Ev.succ ?_
      simp only [spec_ElementsOf.l0]
      exact Ev.neg (by omega) (Ev.of (by simp [elsFrom]))
    | succ d ih =>
      intro i hi acc ha
      refine Ev.succ ?_
      simp only [spec_ElementsOf.l0]
      refine Ev.pos (by omega) (Ev.bind_some (spec_HasElement.is hs (by omega)) ?_)
      rw [wnext (by omega)]
      by_cases h : s.testBit i = true
      · refine Ev.pos h (Ev.pos (by omega) ?_)
        have := ih (i + 1) (by omega) (acc ++ [(i : Int)]) (by simp; omega)
        rwa [show acc ++ elsFrom s i (d + 1) = acc ++ [(i : Int)] ++ elsFrom s (i + 1) d by simp [elsFrom, h]]
      · refine Ev.neg h ?_
        have := ih (i + 1) (by omega) acc (by omega)
        rwa [show acc ++ elsFrom s i (d + 1) = acc ++ elsFrom s (i + 1) d by simp [elsFrom, h]]
  exact key 8 0 (by omega) [] (by simp)
def rowN (s i : Nat) : Nat := (rd (els s) (i : Int)).toNat
theorem rowN_is {s i : Nat} (hi : i < (els s).length) : rd (els s) (i : Int) = (rowN s i : Int) ∧ s.testBit (rowN s i) = true ∧ rowN s i < 8 := by
  obtain ⟨x, h1, h2, h3⟩ := mem_els.1 (rd_mem (l := els s) (i := i) hi)
  have : rowN s i = x := by unfold rowN; omega
  rw [this]
  exact ⟨h3, h2, h1⟩
def isO (s n : Nat) (l : List Int) (k : Nat) : Bool := !s.testBit (k % n) && hasI l (swp s (rowN s (k / n)) (k % n))
def isU (s n k : Nat) : Bool := k % n == rowN s (k / n)
def v0 (s n : Nat) (l : List Int) (k : Nat) : Int := if isU s n k || isO s n l k then 1 else 0
def v1 (s n : Nat) (k : Nat) : Int := if isU s n k then 1 else 0
theorem mod_at {i e n : Nat} (he : e < n) : (i * n + e) % n = e := by rw [Nat.add_comm, Nat.add_mul_mod_self_right, Nat.mod_eq_of_lt he]
theorem div_at {i e n : Nat} (he : e < n) : (i * n + e) / n = i := by
  rw [Nat.add_comm, Nat.add_mul_div_right _ _ (by omega), Nat.div_eq_of_lt he, Nat.zero_add]
theorem range_snoc {α : Type} (f : Nat → α) (m : Nat) : (List.range (m + 1)).map f = (List.range m).map f ++ [f m] := by
  rw [List.range_succ, List.map_append]; rfl
theorem spec_l26Start.is (n : Nat) (l : List Int) (hl : l.length ≤ maxLen) (hM : Mat n l) (s : Nat) (hsl : (s : Int) ∈ l) (p : Int) :
    Ev (fun k => spec_l26Start.f k (n : Int) l p (s : Int)) (p, ((els s).length : Int), (n : Int), (List.range ((els s).length * n)).map (v0 s n l)) := by
  have hn := hM.n8
  have hp : (2 : Nat) ^ n ≤ 256 := Nat.pow_le_pow_right (n := 2) (by decide) hn
  obtain ⟨s2, hs2, es⟩ := hM.sets _ hsl
  obtain rfl : s = s2 := by omega
  have hs : s < 256 := by omega
  have h8 := els_length (s := s)
  have row : ∀ i, i < (els s).length → ∀ d e, e + d = n → ∀ v, Ev (fun k => spec_l26Start.l0 k (s : Int) (els s) ((i + 1 : Nat) : Int) (n : Int) l p ((els s).length : Int) (n : Int) ((List.range ((i + 1) * n)).map (v0 s n l))) v →
      Ev (fun k => spec_l26Start.l1 k (s : Int) (els s) (i : Int) (e : Int) (n : Int) l p ((els s).length : Int) (n : Int) ((List.range (i * n + e)).map (v0 s n l))) v := by
    intro i hi d
    obtain ⟨hr1, hr2, hr3⟩ := rowN_is hi
    induction d with
    | zero =>
      intro e he v hv
      have : e = n := by omega
      subst this
      refine Ev.succ ?_
      simp only [spec_l26Start.l1]
      refine Ev.neg (by omega) ?_
      rw [wnext (by omega)]
      rwa [show (i + 1) * e = i * e + e by rw [Nat.add_mul, Nat.one_mul]] at hv
    | succ d ih =>
      intro e he v hv
      have hen : e < n := by omega
      have hin : i * n ≤ 8 * 8 := Nat.mul_le_mul (by omega) hn
      have hlen : ((List.range (i * n + e)).map (v0 s n l)).length = i * n + e := by rw [List.length_map, List.length_range]
      have hnx := ih (e + 1) (by omega) v hv
      rw [show i * n + (e + 1) = i * n + e + 1 by omega, range_snoc] at hnx
      have hl2 := spec_l2Has.is (s := (s : Int)) (e := (e : Int)) (by omega) (by omega) (by omega) (by omega)
      rw [has_nat] at hl2
      have hv0 : v0 s n l (i * n + e) = if (e == rowN s i) || (!s.testBit e && hasI l (swp s (rowN s i) e)) then 1 else 0 := by
        unfold v0 isU isO
        rw [mod_at hen, div_at hen]
      refine Ev.succ ?_
      simp only [spec_l26Start.l1]
      refine Ev.pos (by omega) (Ev.bind_some hl2 ?_)
      by_cases hb : s.testBit e = true
      · refine Ev.pos hb (Ev.pos (by omega) (Ev.pos (by omega) (Ev.bind_some (v := v0 s n l (i * n + e)) ?_ (Ev.pos (by omega) ?_))))
        · rw [hr1, hv0, hb]
          unfold spec_l1Bit.f
          by_cases h : e = rowN s i
          · simp [h]
          · have h2 : ¬ (e : Int) = (rowN s i : Int) := by omega
            simp [h, h2]
        · rw [wnext (by omega)]; exact hnx
      · have hb2 : s.testBit e = false := by simpa using hb
        obtain ⟨c, c1, c2, c3⟩ := spec_CircuitOf.is n l hl hM s e hsl hen hb2
        have hl3 := spec_l2Has.is (s := (c : Int)) (e := (rowN s i : Int)) (by omega) (by omega) (by omega) (by omega)
        rw [has_nat, c2 _ hr2] at hl3
        refine Ev.neg hb (Ev.bind c3 (Ev.pos (by omega) (Ev.pos (by omega) ?_)))
        rw [hr1]
        refine Ev.bind_some hl3 (Ev.bind_some (v := v0 s n l (i * n + e)) ?_ (Ev.pos (by omega) ?_))
        · rw [hv0, hb2]
          have hne : ¬ e = rowN s i := fun h => by rw [h, hr2] at hb2; exact absurd hb2 (by decide)
          unfold spec_l1Bit.f
          cases hasI l (swp s (rowN s i) e) <;> simp [hne]
        · rw [wnext (by omega)]; exact hnx
  have rows : ∀ d i, i + d = (els s).length → Ev (fun k => spec_l26Start.l0 k (s : Int) (els s) (i : Int) (n : Int) l p ((els s).length : Int) (n : Int) ((List.range (i * n)).map (v0 s n l))) (p, ((els s).length : Int), (n : Int), (List.range ((els s).length * n)).map (v0 s n l)) := by
    intro d
    induction d with
    | zero =>
      intro i hi
      have : i = (els s).length := by omega
      refine Ev.succ ?_
      simp only [spec_l26Start.l0]
      exact Ev.neg (by omega) (Ev.of (by rw [this]))
    | succ d ih =>
      intro i hi
      refine Ev.succ ?_
      simp only [spec_l26Start.l0]
      refine Ev.pos (by omega) ?_
      have := row i (by omega) n 0 (by omega) _ (ih (i + 1) (by omega))
      exact this
  unfold spec_l26Start.f
  refine Ev.bind (spec_ElementsOf.is hs) ?_
  have := rows (els s).length 0 (by omega)
  rw [Nat.zero_mul] at this
  exact this
def Part (s n len m : Nat) (X : List Int) : Prop := X.length = len ∧ ∀ k : Nat, k < len → rd X (k : Int) = if k < m then v1 s n k else 0
theorem impl_FindMatrix.start (n : Nat) (l : List Int) (hl : l.length ≤ maxLen) (hM : Mat n l) (s : Nat) (hsl : (s : Int) ∈ l) (p : Int) :
    ∀ i, i ≤ (els s).length → ∀ X, Part s n ((els s).length * n) (i * n) X → ∃ X', Part s n ((els s).length * n) ((els s).length * n) X' ∧
      ∀ v, Ev (fun k => impl_FindMatrix.l0 k (s : Int) (((List.range ((els s).length * n)).filter (isO s n l)).map (fun (x : Nat) => (x : Int))) (els s) ((els s).length : Int) ((els s).length : Int) (n : Int) l p ((els s).length : Int) (n : Int) X') v →
        Ev (fun k => impl_FindMatrix.l0 k (s : Int) (((List.range (i * n)).filter (isO s n l)).map (fun (x : Nat) => (x : Int))) (els s) ((els s).length : Int) (i : Int) (n : Int) l p ((els s).length : Int) (n : Int) X) v := by
  have hn := hM.n8
  have hp : (2 : Nat) ^ n ≤ 256 := Nat.pow_le_pow_right (n := 2) (by decide) hn
  obtain ⟨s2, hs2, es⟩ := hM.sets _ hsl
  obtain rfl : s = s2 := by omega
  have hs : s < 256 := by omega
  have h8 := els_length (s := s)
  have row : ∀ i, i < (els s).length → ∀ d e, e + d = n → ∀ X, Part s n ((els s).length * n) (i * n + e) X → ∃ X', Part s n ((els s).length * n) ((i + 1) * n) X' ∧
      ∀ v, Ev (fun k => impl_FindMatrix.l0 k (s : Int) (((List.range ((i + 1) * n)).filter (isO s n l)).map (fun (x : Nat) => (x : Int))) (els s) ((els s).length : Int) ((i + 1 : Nat) : Int) (n : Int) l p ((els s).length : Int) (n : Int) X') v →
        Ev (fun k => impl_FindMatrix.l1 k (s : Int) (((List.range (i * n + e)).filter (isO s n l)).map (fun (x : Nat) => (x : Int))) (i : Int) (rd (els s) (i : Int)) (e : Int) (els s) ((els s).length : Int) (i : Int) (n : Int) l p ((els s).length : Int) (n : Int) X) v := by
    intro i hi d
    obtain ⟨hr1, hr2, hr3⟩ := rowN_is hi
    induction d with
    | zero =>
      intro e he X hX
      have : e = n := by omega
      subst this
      have e1 : (i + 1) * e = i * e + e := by rw [Nat.add_mul, Nat.one_mul]
      refine ⟨X, by rw [e1]; exact hX, fun v hv => Ev.succ ?_⟩
      simp only [impl_FindMatrix.l1]
      refine Ev.neg (by omega) ?_
      rw [wnext (by omega)]
      rwa [e1] at hv
    | succ d ih =>
      intro e he X hX
      have hen : e < n := by omega
      have hin : i * n ≤ 8 * 8 := Nat.mul_le_mul (by omega) hn
      have hlt : i * n + e < (els s).length * n := idx_lt hi hen
      have hXl := hX.1
      have hflen : (((List.range (i * n + e)).filter (isO s n l)).map (fun (x : Nat) => (x : Int))).length ≤ 200 := by
        rw [List.length_map]
        have := List.length_filter_le (isO s n l) (List.range (i * n + e))
        rw [List.length_range] at this
        omega
      have hO : isO s n l (i * n + e) = (!s.testBit e && hasI l (swp s (rowN s i) e)) := by
        unfold isO
        rw [mod_at hen, div_at hen]
      have hU : isU s n (i * n + e) = (e == rowN s i) := by
        unfold isU
        rw [mod_at hen, div_at hen]
      have efl : ((List.range (i * n + (e + 1))).filter (isO s n l)).map (fun (x : Nat) => (x : Int)) = ((List.range (i * n + e)).filter (isO s n l)).map (fun (x : Nat) => (x : Int)) ++ (if isO s n l (i * n + e) then [((i * n + e : Nat) : Int)] else []) := setsB_take _ _
      have hi8 : i ≤ 8 := by omega
      have he8 : e ≤ 8 := by omega
      have hwn : e < 9223372036854775807 := by omega
      have hpos : (0 : Int) ≤ ((i * n + e : Nat) : Int) := Int.natCast_nonneg _
      have hltX : ((i * n + e : Nat) : Int) < (X.length : Int) := by rw [hXl]; exact Int.ofNat_lt.2 hlt
      by_cases hu : e = rowN s i
      · have hOf : isO s n l (i * n + e) = false := by rw [hO, hu, hr2]; rfl
        obtain ⟨X', h1, h2⟩ := ih (e + 1) (by omega) (X.set (i * n + e) 1) ⟨by rw [List.length_set]; exact hXl, fun k hk => by
          rw [rd_set (by omega) (by omega), hX.2 k hk]
          by_cases ek : k = i * n + e
          · rw [if_pos ek, if_pos (by omega), ek]
            unfold v1
            rw [hU]; simp [hu]
          · rw [if_neg ek]
            by_cases ek2 : k < i * n + e
            · rw [if_pos ek2, if_pos (by omega)]
            · rw [if_neg ek2, if_neg (by omega)]⟩
        refine ⟨X', h1, fun v hv => Ev.succ ?_⟩
        have h3 := h2 v hv
        rw [efl, hOf] at h3
        simp only [Bool.false_eq_true, if_false, List.append_nil] at h3
        simp only [impl_FindMatrix.l1]
        refine Ev.pos (by omega) (Ev.pos (by omega) ?_)
        rw [widx hi8 hn he8, wnext hwn]
        exact Ev.pos hpos (Ev.pos hltX h3)
      · have hv1 : v1 s n (i * n + e) = 0 := by
          unfold v1
          rw [hU]; simp [hu]
        obtain ⟨X', h1, h2⟩ := ih (e + 1) (by omega) X ⟨hXl, fun k hk => by
          rw [hX.2 k hk]
          by_cases ek : k = i * n + e
          · rw [if_neg (by omega), if_pos (by omega), ek, hv1]
          · by_cases ek2 : k < i * n + e
            · rw [if_pos ek2, if_pos (by omega)]
            · rw [if_neg ek2, if_neg (by omega)]⟩
        refine ⟨X', h1, fun v hv => Ev.succ ?_⟩
        have h3 := h2 v hv
        rw [efl] at h3
        simp only [impl_FindMatrix.l1]
        refine Ev.pos (by omega) (Ev.neg (by omega) (Ev.bind_some (impl_HasElement.nat hs (by omega)) ?_))
        by_cases hb : s.testBit e = true
        · have hOf : isO s n l (i * n + e) = false := by rw [hO, hb]; rfl
          rw [hOf] at h3
          simp only [Bool.false_eq_true, if_false, List.append_nil] at h3
          refine Ev.pos hb ?_
          rw [wnext (by omega)]; exact h3
        · have hb2 : s.testBit e = false := by simpa using hb
          obtain ⟨c, c1, c2, c3⟩ := impl_circuit.is (n : Int) l hl s e hs (by omega) hb2
          have hOe : isO s n l (i * n + e) = c.testBit (rowN s i) := by rw [hO, hb2, c2 _ hr2]; rfl
          refine Ev.neg hb (Ev.bind c3 ?_)
          rw [hr1]
          refine Ev.bind_some (impl_HasElement.nat c1 hr3) ?_
          rw [hr1] at h3
          by_cases hc : c.testBit (rowN s i) = true
          · rw [hOe, hc] at h3
            simp only [if_true] at h3
            refine Ev.pos hc (Ev.pos (by omega) ?_)
            rw [widx hi8 hn he8, wnext hwn]; exact h3
          · rw [hOe] at h3
            rw [if_neg hc, List.append_nil] at h3
            refine Ev.neg hc ?_
            rw [wnext (by omega)]; exact h3
  have rows : ∀ d i, i + d = (els s).length → ∀ X, Part s n ((els s).length * n) (i * n) X → ∃ X', Part s n ((els s).length * n) ((els s).length * n) X' ∧
      ∀ v, Ev (fun k => impl_FindMatrix.l0 k (s : Int) (((List.range ((els s).length * n)).filter (isO s n l)).map (fun (x : Nat) => (x : Int))) (els s) ((els s).length : Int) ((els s).length : Int) (n : Int) l p ((els s).length : Int) (n : Int) X') v →
        Ev (fun k => impl_FindMatrix.l0 k (s : Int) (((List.range (i * n)).filter (isO s n l)).map (fun (x : Nat) => (x : Int))) (els s) ((els s).length : Int) (i : Int) (n : Int) l p ((els s).length : Int) (n : Int) X) v := by
    intro d
    induction d with
    | zero =>
      intro i hi X hX
      have : i = (els s).length := by omega
      subst this
      exact ⟨X, hX, fun v hv => hv⟩
    | succ d ih =>
      intro i hi X hX
      obtain ⟨X1, h1, h2⟩ := row i (by omega) n 0 (by omega) X hX
      obtain ⟨X2, h3, h4⟩ := ih (i + 1) (by omega) X1 h1
      refine ⟨X2, h3, fun v hv => Ev.succ ?_⟩
      simp only [impl_FindMatrix.l0]
      exact Ev.pos (by omega) (Ev.pos (by omega) (Ev.pos (by omega) (h2 v (h4 v hv))))
  intro i hi X hX
  exact rows ((els s).length - i) i (by omega) X hX
theorem FindMatrix.go (n : Nat) (l : List Int) (hl : l.length ≤ maxLen) (hM : Mat n l) (p : Nat) (hp : 2 ≤ p ∧ p < 100) :
    ∃ v : Int × Int × Int × List Int × Bool, v.2.2.2.1.length ≤ 64 ∧ Ev (fun k => impl_FindMatrix.j0 k (p : Int) false (n : Int) l) v ∧ Ev (fun k => spec_FindMatrix.j0 k (p : Int) false (n : Int) l) v := by
  have hn := hM.n8
  have hp2 : (2 : Nat) ^ n ≤ 256 := Nat.pow_le_pow_right (n := 2) (by decide) hn
  have hl0 : 0 < l.length := List.length_pos_iff.2 hM.some_
  obtain ⟨s, hs2, es⟩ := hM.sets _ (rd_mem (l := l) (i := 0) hl0)
  have hsl : (s : Int) ∈ l := by rw [← es]; exact rd_mem hl0
  have er : rd l 0 = (s : Int) := es
  have hs : s < 256 := by omega
  have h8 := els_length (s := s)
  have hlen : (els s).length * n ≤ 8 * 8 := Nat.mul_le_mul h8 hn
  have hc0 : (0 : Int) < (l.length : Int) := by omega
  have hc1 : (0 : Int) ≤ (((els s).length * n : Nat) : Int) := Int.natCast_nonneg _
  have hc2 : ((((els s).length * n : Nat) : Int)).toNat ≤ 35184372088832 := by rw [Int.toNat_natCast]; omega
  obtain ⟨T, hT⟩ := serves (p : Int) ((els s).length : Int) (n : Int) l
  obtain ⟨X1, hX1, hgo⟩ := impl_FindMatrix.start n l hl hM s hsl (p : Int) 0 (Nat.zero_le _) (List.replicate ((els s).length * n) 0) ⟨by rw [List.length_replicate], fun k hk => by
    rw [rd_nat (by rw [List.length_replicate]; exact hk), List.getElem_replicate, if_neg (by omega)]⟩
  have hX0l : ((List.range ((els s).length * n)).map (v0 s n l)).length = (els s).length * n := by rw [List.length_map, List.length_range]
  have rd0 : ∀ k, k < (els s).length * n → rd ((List.range ((els s).length * n)).map (v0 s n l)) (k : Int) = v0 s n l k := fun k hk => by
    rw [rd_nat (by omega), List.getElem_map, List.getElem_range]
  have hn0 : 0 < (els s).length * n → 0 < n := fun h => Nat.pos_of_ne_zero (fun e => by rw [e, Nat.mul_zero] at h; omega)
  have hIO : ∀ k, isO s n l k = true → s.testBit (k % n) = false := fun k h => by
    unfold isO at h
    simp only [Bool.and_eq_true, Bool.not_eq_true'] at h
    exact h.1
  have hag : agree ((List.range ((els s).length * n)).filter (isO s n l)) ((List.range ((els s).length * n)).map (v0 s n l)) X1 := by
    refine ⟨by rw [hX0l]; exact hX1.1.symm, fun i hi => ?_⟩
    have hX1l := hX1.1
    by_cases h : i < (els s).length * n
    · have e1 := rd0 i h
      have e2 := hX1.2 i h
      rw [rd_nat (by omega)] at e1 e2
      rw [List.getElem?_eq_getElem (by omega), List.getElem?_eq_getElem (by omega), e1, e2, if_pos h]
      have h0 : isO s n l i = false := by
        rw [Bool.eq_false_iff]
        exact fun h2 => hi (List.mem_filter.2 ⟨List.mem_range.2 h, h2⟩)
      unfold v0 v1
      rw [h0, Bool.or_false]
    · rw [List.getElem?_eq_none (by omega), List.getElem?_eq_none (by omega)]
  have hmem : ∀ o ∈ (List.range ((els s).length * n)).filter (isO s n l), o < X1.length := fun o ho => by
    rw [hX1.1]; exact List.mem_range.1 (List.mem_filter.1 ho).1
  have hol : ((List.range ((els s).length * n)).filter (isO s n l)).length ≤ 64 := by
    have := List.length_filter_le (isO s n l) (List.range ((els s).length * n))
    rw [List.length_range] at this
    omega
  have hX1l := hX1.1
  obtain ⟨f1, f2⟩ := impl_fillCells.is p hp.2 ((els s).length : Int) (n : Int) l T hT ((List.range ((els s).length * n)).filter (isO s n l)) X1 (by omega) hol hmem
  have hs1 := spec_FindMatrix.search p s n ((els s).length * n) hp hs hn (by omega) hn0 (isO s n l) ((els s).length : Int) l T hT
    (X := (List.range ((els s).length * n)).map (v0 s n l)) ⟨hX0l, fun k hk h => ⟨hIO k h, by
      rw [rd0 k hk]
      unfold v0
      rw [h, Bool.or_true, if_pos rfl]
      omega⟩, fun k hk h => by
      by_cases hb : s.testBit (k % n) = true
      · exact .inl hb
      · right
        have hi : k / n < (els s).length := Nat.div_lt_of_lt_mul (by rw [Nat.mul_comm]; exact hk)
        have hu : isU s n k = false := by
          rw [Bool.eq_false_iff]
          intro h2
          unfold isU at h2
          rw [beq_iff_eq] at h2
          rw [h2, (rowN_is hi).2.1] at hb
          exact hb rfl
        rw [rd0 k hk]
        unfold v0
        rw [h, hu]; rfl⟩ (fun k hk h => by
      rw [rd0 k hk]
      unfold v0
      rw [h, Bool.or_true, if_pos rfl])
  rw [srch_agree p T _ _ _ hag] at hs1
  refine ⟨encF (p : Int) ((els s).length : Int) (n : Int) (srch p T ((List.range ((els s).length * n)).filter (isO s n l)) X1), ?_, ?_, ?_⟩
  · cases hsr : srch p T ((List.range ((els s).length * n)).filter (isO s n l)) X1 with
    | none => exact Nat.zero_le _
    | some Y =>
      have := srch_length _ _ _ _ _ hsr
      show Y.length ≤ 64
      omega
  rotate_left
  ·
    refine Ev.succ ?_
    simp only [spec_FindMatrix.j0]
    refine Ev.neg (by decide) (Ev.pos hc0 ?_)
    rw [er]
    exact Ev.bind (spec_l26Start.is n l hl hM s hsl (p : Int)) hs1
  · refine Ev.succ ?_
    simp only [impl_FindMatrix.j0]
    refine Ev.neg (by decide) (Ev.pos hc0 ?_)
    rw [er]
    refine Ev.bind (impl_ElementsOf.is hs) ?_
    rw [wmul hlen]
    refine Ev.pos hc1 (Ev.pos hc2 ?_)
    rw [Int.toNat_natCast]
    have h := hgo (encF (p : Int) ((els s).length : Int) (n : Int) (srch p T ((List.range ((els s).length * n)).filter (isO s n l)) X1)) (by
      refine Ev.succ ?_
      simp only [impl_FindMatrix.l0]
      refine Ev.neg (by omega) ?_
      cases hsr : srch p T ((List.range ((els s).length * n)).filter (isO s n l)) X1 with
      | some Y => exact Ev.bind (f1 Y hsr) (Ev.pos rfl (Ev.of rfl))
      | none =>
        obtain ⟨X', _, g2⟩ := f2 hsr
        exact Ev.bind g2 (Ev.neg Bool.false_ne_true (Ev.of rfl)))
    rw [Nat.zero_mul] at h
    exact h
theorem FindMatrix.is (n : Int) (l : List Int) (hl : l.length ≤ maxLen) (p : Int) : ∃ v : Int × Int × Int × List Int × Bool, v.2.2.2.1.length ≤ 64 ∧ Ev (fun k => impl_FindMatrix.f k n l p) v ∧ Ev (fun k => spec_FindMatrix.f k n l p) v := by
  have no1 : Ev (fun k => impl_FindMatrix.j0 k p true n l) (0, 0, 0, [], false) := by
    refine Ev.succ ?_
    simp only [impl_FindMatrix.j0]
    exact Ev.pos trivial (Ev.of rfl)
  have no2 : Ev (fun k => spec_FindMatrix.j0 k p true n l) (0, 0, 0, [], false) := by
    refine Ev.succ ?_
    simp only [spec_FindMatrix.j0]
    exact Ev.pos trivial (Ev.of rfl)
  have m1 := impl_IsMatroid.is n l hl
  have m2 := spec_IsMatroid.is n l hl
  unfold impl_FindMatrix.f spec_FindMatrix.f
  by_cases h : matr n l = true
  · obtain ⟨n, rfl, hM⟩ := matr_nat h
    by_cases h6 : (n : Int) > 6
    · exact ⟨(0, 0, 0, [], false), Nat.zero_le _, Ev.bind m1 (Ev.pos h (Ev.pos h6 no1)), Ev.bind m2 (Ev.pos h (Ev.pos h6 no2))⟩
    · by_cases e2 : p = 2
      · subst e2
        obtain ⟨v, vl, a, b⟩ := FindMatrix.go n l hl hM 2 (by decide)
        exact ⟨v, vl, Ev.bind m1 (Ev.pos h (Ev.neg h6 (Ev.pos rfl a))), Ev.bind m2 (Ev.pos h (Ev.neg h6 (Ev.pos rfl b)))⟩
      · by_cases e3 : p = 3
        · subst e3
          obtain ⟨v, vl, a, b⟩ := FindMatrix.go n l hl hM 3 (by decide)
          exact ⟨v, vl, Ev.bind m1 (Ev.pos h (Ev.neg h6 (Ev.neg e2 a))), Ev.bind m2 (Ev.pos h (Ev.neg h6 (Ev.neg e2 b)))⟩
        · have e4 : (p != 3) = true := by simp [e3]
          exact ⟨(0, 0, 0, [], false), Nat.zero_le _, Ev.bind m1 (Ev.pos h (Ev.neg h6 (Ev.neg e2 (by rw [e4]; exact no1)))), Ev.bind m2 (Ev.pos h (Ev.neg h6 (Ev.neg e2 (by rw [e4]; exact no2))))⟩
  · exact ⟨(0, 0, 0, [], false), Nat.zero_le _, Ev.bind m1 (Ev.neg h no1), Ev.bind m2 (Ev.neg h no2)⟩
theorem set_ext_rd {a b : List Int} (hl : a.length = b.length) (h : ∀ i : Nat, i < a.length → rd a (i : Int) = rd b (i : Int)) : a = b := by
  refine List.ext_getElem hl (fun i h1 h2 => ?_)
  have := h i h1
  rwa [rd_nat h1, rd_nat h2] at this
theorem rd_put {a : List Int} {m k : Nat} {v : Int} (hm : m < a.length) (hk : k < a.length) : rd (a.set m v) (k : Int) = if k = m then v else rd a (k : Int) := by
  rw [rd_nat (by rw [List.length_set]; exact hk), rd_nat hk, List.getElem_set]
  by_cases h : m = k
  · subst h; simp
  · rw [if_neg h, if_neg (fun e => h e.symm)]
theorem laws_toIntS.is (l : List Int) (hl : l.length ≤ 2000000) : Ev (fun k => laws_toIntS.f k l) l := by
  have key : ∀ d i, i + d = l.length → ∀ a : List Int, a.length = l.length → (∀ j : Nat, j < i → rd a (j : Int) = rd l (j : Int)) → Ev (fun k => laws_toIntS.l0 k l a (i : Int)) l := by
    intro d
    induction d with
    | zero =>
      intro i hi a ha h
      refine Ev.succ ?_
      simp only [laws_toIntS.l0]
      exact Ev.neg (by omega) (Ev.of (by rw [set_ext_rd ha (fun j hj => h j (by omega))]))
    | succ d ih =>
      intro i hi a ha h
      refine Ev.succ ?_
      simp only [laws_toIntS.l0]
      refine Ev.pos (by omega) (Ev.pos (by omega) (Ev.pos (by omega) ?_))
      rw [wnext (by omega), Int.toNat_natCast]
      exact ih (i + 1) (by omega) _ (by rw [List.length_set]; exact ha) (fun j hj => by
        rw [rd_put (by omega) (by omega)]
        by_cases e : j = i
        · rw [if_pos e, e]
        · rw [if_neg e]; exact h j (by omega))
  unfold laws_toIntS.f
  refine Ev.pos (by omega) (Ev.pos (by omega) ?_)
  exact key l.length 0 (by omega) _ (by simp) (fun j hj => absurd hj (Nat.not_lt_zero j))
theorem laws_eqIntS.is (a b : List Int) (ha : a.length ≤ maxLen) : Ev (fun k => laws_eqIntS.f k a b) (decide (a = b)) := by
  have hm := maxLen_eq
  unfold laws_eqIntS.f
  by_cases hl : a.length = b.length
  · have key : ∀ d i, i + d = a.length → ∃ c : Bool, (c = true ↔ ∀ j : Nat, i ≤ j → j < a.length → rd a (j : Int) = rd b (j : Int)) ∧ Ev (fun k => laws_eqIntS.l0 k a b (i : Int)) c := by
      intro d
      induction d with
      | zero =>
        intro i hi
        refine ⟨true, ⟨fun _ j h1 h2 => absurd h2 (by omega), fun _ => rfl⟩, Ev.succ ?_⟩
        simp only [laws_eqIntS.l0]
        exact Ev.neg (by omega) (Ev.of rfl)
      | succ d ih =>
        intro i hi
        obtain ⟨c, h1, h2⟩ := ih (i + 1) (by omega)
        by_cases h : rd a (i : Int) = rd b (i : Int)
        · refine ⟨c, ?_, Ev.succ ?_⟩
          · rw [h1]
            constructor
            · intro h3 j h4 h5
              by_cases e : j = i
              · rw [e]; exact h
              · exact h3 j (by omega) h5
            · exact fun h3 j h4 h5 => h3 j (by omega) h5
          · simp only [laws_eqIntS.l0]
            refine Ev.pos (by omega) (Ev.pos (by omega) (Ev.pos (by omega) (Ev.pos h ?_)))
            rw [wnext (by omega)]
            exact h2
        · refine ⟨false, ⟨fun h3 => absurd h3 Bool.false_ne_true, fun h3 => absurd (h3 i (Nat.le_refl _) (by omega)) h⟩, Ev.succ ?_⟩
          simp only [laws_eqIntS.l0]
          exact Ev.pos (by omega) (Ev.pos (by omega) (Ev.pos (by omega) (Ev.neg h (Ev.of rfl))))
    refine Ev.pos (by omega) ?_
    obtain ⟨c, h1, h2⟩ := key a.length 0 (by omega)
    have e : decide (a = b) = c := by
      rw [Bool.eq_iff_iff, decide_eq_true_iff, h1]
      exact ⟨fun h j _ _ => by rw [h], fun h => set_ext_rd hl (fun i hi => h i (Nat.zero_le _) hi)⟩
    rw [e]
    exact h2
  · refine Ev.neg (by omega) (Ev.of ?_)
    rw [decide_eq_false (fun h => hl (by rw [h]))]
theorem laws_toMatroid.is (n : Int) (l : List Int) (hl : l.length ≤ 2000000) : Ev (fun k => laws_toMatroid.f k n l) (n, l) := by
  unfold laws_toMatroid.f
  exact Ev.bind (laws_toIntS.is l hl) (Ev.of rfl)
theorem laws_eqMatroid.is (n m : Int) (a b : List Int) (ha : a.length ≤ maxLen) : Ev (fun k => laws_eqMatroid.f k n a m b) (decide (n = m) && decide (a = b)) := by
  unfold laws_eqMatroid.f
  by_cases h : n = m
  · refine Ev.pos h (Ev.bind (laws_eqIntS.is a b ha) ?_)
    rw [decide_eq_true h, Bool.true_and]
    by_cases h2 : decide (a = b) = true
    · exact Ev.pos h2 (Ev.of (by rw [h2]))
    · exact Ev.neg h2 (Ev.of (by rw [Bool.eq_false_iff.2 h2]))
  · refine Ev.neg h (Ev.of ?_)
    rw [decide_eq_false h, Bool.false_and]
theorem laws_szMatroid.is (n : Int) (l : List Int) (hl : l.length ≤ maxLen) : laws_szMatroid.f n l 1048576 = some (if l.length ≤ 1048576 then 1048576 - (l.length : Int) else -1) := by
  have hm := maxLen_eq
  have e : wrap64 (1048576 - (l.length : Int)) = 1048576 - (l.length : Int) := w64 (by omega) (by omega)
  unfold laws_szMatroid.f laws_szIntS.f
  rw [e]
  by_cases h : l.length ≤ 1048576
  · have h2 : ¬ (1048576 - (l.length : Int) < 0) := by omega
    rw [if_pos h, if_neg h2]
    show (if (1048576 - (l.length : Int)) < 0 then _ else _) = _
    rw [if_neg h2]
  · have h2 : (1048576 - (l.length : Int) < 0) := by omega
    rw [if_neg h, if_pos h2]; rfl
theorem marks.is (l : List Int) (hl : l.length ≤ 2000000) : ∃ l' : List Int, l'.length = l.length ∧ Ev (fun k => laws_markIntS.f k l 1) (1 + (l.length : Int), l') ∧ Ev (fun k => laws_heldIntS.f k l' 1) (1 + (l.length : Int)) := by
  have key : ∀ d i, i + d = l.length → ∀ a : List Int, a.length = l.length → (∀ j : Nat, j < i → rd a (j : Int) = 1 + (j : Int)) → ∃ l' : List Int, l'.length = l.length ∧ (∀ j : Nat, j < l.length → rd l' (j : Int) = 1 + (j : Int)) ∧ Ev (fun k => laws_markIntS.l0 k a (1 + (i : Int)) (i : Int)) (1 + (l.length : Int), l') := by
    intro d
    induction d with
    | zero =>
      intro i hi a ha h
      have : i = l.length := by omega
      refine ⟨a, ha, fun j hj => h j (by omega), Ev.succ ?_⟩
      simp only [laws_markIntS.l0]
      exact Ev.neg (by omega) (Ev.of (by rw [this]))
    | succ d ih =>
      intro i hi a ha h
      have hs : (a.set i (1 + (i : Int))).length = l.length := by rw [List.length_set]; exact ha
      obtain ⟨l', h1, h2, h3⟩ := ih (i + 1) (by omega) (a.set i (1 + (i : Int))) hs (fun j hj => by
        rw [rd_put (by omega) (by omega)]
        by_cases e : j = i
        · rw [if_pos e, e]
        · rw [if_neg e]; exact h j (by omega))
      refine ⟨l', h1, h2, Ev.succ ?_⟩
      simp only [laws_markIntS.l0]
      refine Ev.pos (by omega) (Ev.pos (by omega) ?_)
      rw [wnext (by omega), Int.toNat_natCast, w64 (n := 1 + (i : Int) + 1) (by omega) (by omega), show 1 + (i : Int) + 1 = 1 + ((i + 1 : Nat) : Int) by omega]
      exact h3
  obtain ⟨l', h1, h2, h3⟩ := key l.length 0 (by omega) l rfl (fun j hj => absurd hj (Nat.not_lt_zero j))
  refine ⟨l', h1, h3, ?_⟩
  have held : ∀ d i, i + d = l.length → Ev (fun k => laws_heldIntS.l0 k l' (1 + (i : Int)) (i : Int)) (1 + (l.length : Int)) := by
    intro d
    induction d with
    | zero =>
      intro i hi
      have : i = l.length := by omega
      refine Ev.succ ?_
      simp only [laws_heldIntS.l0]
      exact Ev.neg (by omega) (Ev.of (by rw [this]))
    | succ d ih =>
      intro i hi
      refine Ev.succ ?_
      simp only [laws_heldIntS.l0]
      refine Ev.pos (by omega) (Ev.pos (by omega) (Ev.pos (h2 i (by omega)) ?_))
      rw [wnext (by omega), w64 (n := 1 + (i : Int) + 1) (by omega) (by omega), show 1 + (i : Int) + 1 = 1 + ((i + 1 : Nat) : Int) by omega]
      exact ih (i + 1) (by omega)
  exact held l.length 0 (by omega)
theorem laws_eqMatrix.same (p r n : Int) (c : List Int) (hc : c.length ≤ maxLen) : Ev (fun k => laws_eqMatrix.f k p r n c p r n c) true := by
  unfold laws_eqMatrix.f
  have h := laws_eqIntS.is c c hc
  rw [decide_eq_true rfl] at h
  exact Ev.pos rfl (Ev.pos rfl (Ev.pos rfl (Ev.bind h (Ev.pos rfl (Ev.of rfl)))))
end Go.Proofs.Ytbhckhblonkajaa.Q
namespace Go.Proofs.Ytbhckhblonkajaa.Pure
open Go.RowKit Go.Proofs.Ytbhckhblonkajaa.Q
theorem FnExactFindMatrix : ∀ (a0 : Int) (l0 : List Int) (a1 : Int), (Lit.int .i64 a0).wf = true → l0.length ≤ maxLen → (∀ x ∈ l0, (Lit.int .i64 x).wf = true) → (Lit.int .i64 a1).wf = true → ∃ k, Q.laws_FnExactFindMatrix.f k a0 l0 a1 = some true := by
  intro n l p _ hl _ _
  have hm := maxLen_eq
  refine Ev.out (f := fun k => Q.laws_FnExactFindMatrix.f k n l p) ?_
  unfold laws_FnExactFindMatrix.f
  refine Ev.bind_some (laws_szMatroid.is n l hl) ?_
  by_cases h : l.length ≤ 1048576
  · rw [if_pos h]
    have hc := laws_toMatroid.is n l (by omega)
    have he := laws_eqMatroid.is n n l l hl
    rw [decide_eq_true rfl, decide_eq_true rfl] at he
    obtain ⟨v, vl, h1, h2⟩ := FindMatrix.is n l hl p
    have hv : v.2.2.2.1.length ≤ maxLen := by omega
    have hem := laws_eqMatrix.same v.1 v.2.1 v.2.2.1 v.2.2.2.1 hv
    obtain ⟨m1, a1, a2, _⟩ := marks.is l (by omega)
    obtain ⟨m2, b1, b2, b3⟩ := marks.is v.2.2.2.1 (by omega)
    have hne : ¬ (v.2.2.2.2 != v.2.2.2.2) = true := by simp
    have hheld : Ev (fun k => laws_heldMatrix.f k v.1 v.2.1 v.2.2.1 m2 1) (1 + (v.2.2.2.1.length : Int)) := by
      unfold laws_heldMatrix.f
      exact Ev.bind b3 (Ev.neg (by omega) (Ev.of rfl))
    refine Ev.neg (by omega) (Ev.bind hc (Ev.bind h2 (Ev.bind hc (Ev.bind h1 (Ev.bind hem (Ev.pos rfl (Ev.succ ?_)))))))
    simp only [laws_FnExactFindMatrix.j0]
    refine Ev.neg hne (Ev.bind hc (Ev.bind he (Ev.pos rfl (Ev.bind (v := (1 + (l.length : Int), m1)) ?_ (Ev.neg (by simp only; omega) (Ev.bind hem (Ev.pos rfl (Ev.succ ?_))))))))
    · unfold laws_markMatroid.f
      exact Ev.bind a2 (Ev.of rfl)
    simp only [laws_FnExactFindMatrix.j1]
    refine Ev.neg hne (Ev.bind (v := (1 + (v.2.2.2.1.length : Int), m2)) ?_ (Ev.bind hheld (Ev.neg (by omega) (Ev.pos rfl (Ev.bind hc (Ev.bind h1 (Ev.bind hem (Ev.pos rfl (Ev.succ ?_)))))))))
    · unfold laws_markMatrix.f
      exact Ev.bind b2 (Ev.of rfl)
    simp only [laws_FnExactFindMatrix.j2]
    exact Ev.neg hne (Ev.bind hheld (Ev.neg (by omega) (Ev.pos rfl (Ev.of rfl))))
  · rw [if_neg h]
    exact Ev.pos (by decide) (Ev.of rfl)
end Go.Proofs.Ytbhckhblonkajaa.Pure
namespace Go.Proofs.Ytbhckhblonkajaa.fnExactFindMatrix
open Go.ChangeShapes Go.WideShapes Go.ChangeAt Go.RowKit Go.Joins Go.Proofs.YtbhckhblonkajaaW.PrintWords
theorem own : ownKnob Try.prog.godebug = none := by kernel_rfl
theorem laidOut : laidOutB Try.prog = true := by kernel_rfl
theorem cellsM : Try.prog.cellsOf 24 = 2 := by kernel_rfl
set_option maxRecDepth 100000 in
theorem lifted (os : Os) (started : os.Started) (H : Type) (enc : TypeId × Value → H) :
    ReturnsInHanded {} Try.checked os 6 .any (Rows.fnExactFindMatrixSpec.pre6 enc Try.prog Try.f6 Rows.fnExactFindMatrixRow.domain false) (Rows.fnExactFindMatrixSpec.post enc Try.prog Try.f6 false true false false) := by
  refine returnsInHanded_of_change_sized (C := Try.checked) own started (by kernel_rfl) Try.func6
    (ChangeSpec.witness6 (enc := enc) (C := Try.checked) false ⟨#[], #[.agg #[.int .i64 0, .slice none 0 0], .int .i64 0], []⟩ 8 (by kernel_rfl) (by kernel_rfl) (by kernel_rfl) (by kernel_rfl)) ?_
  intro W base args ds gs before hval0 hW hcnd hsz0 _
  have hval : ∀ (j : Nat) t v, Try.f6.params[j]? = some t → args[j]? = some v → Value.okWide Try.prog W .any base t v := hval0
  have hW' := hW
  obtain ⟨p, q, hA0, hV, rfl, hfz, hnd⟩ := hW
  have hA : DataW.TrodAll enc Try.prog W 0 (fun _ => true) true Try.f6.params.toList args.toList ds p := hA0
  rw [Try.params6] at hA hval
  obtain ⟨v0, vs0, d0, ds0, p0, q0, hargs, rfl, rfl, h0, r0⟩ := trodAll_cons hA
  obtain ⟨v1, vs1, d1, ds1, p1, q1, rfl, rfl, rfl, h1, r1⟩ := trodAll_cons r0
  obtain ⟨rfl, rfl, rfl⟩ := trodAll_nil r1
  obtain rfl : args = #[v0, v1] := by cases args; simp_all
  obtain ⟨rfl, rfl⟩ := trodVars_none hV
  have k0 := h0
  have lt0 : ∀ x ∈ p0, x.block < W.heap.size := by obtain ⟨m, hm⟩ := k0; exact DataW.trod_lt m _ _ _ hm
  obtain ⟨c0_0, c0_1, y0_0, y0_1, m0, rfl, rfl, rfl, hy0_0, hy0_1⟩ := open_agg2 Try.underlying24 (by kernel_rfl) cellsM (hval 0 24 v0 rfl rfl) h0
  obtain ⟨a0, e0_0, rfl, w0⟩ := DataW.trod_int Try.underlying3 hy0_0
  simp at e0_0
  subst e0_0
  obtain ⟨A0, len0, cap0, l0, e0_1, hr0, hm0, hw0, hc0, hC0⟩ : ∃ A_ len_ cap_ l_, c0_1 = .slice A_ len_ cap_ ∧ len_ = l_.length ∧ l_.length ≤ maxLen ∧ (∀ x ∈ l_, (Lit.int .i64 x).wf = true) ∧ l_.length ≤ cap_ ∧ Kd.C (Kd.int .i64) W A_ l_.length l_ := by
    rcases open_ints Try.underlying22 Try.underlying3 (by kernel_rfl) hy0_1 with ⟨hcs, _⟩ | ⟨x, l, c, zs, hcs, _, hl, hm, hz, _, hcell, hwz⟩
    · simp at hcs; subst hcs
      obtain ⟨l, h1, h2, h3, h4, h5⟩ := ReadsInt.ofRowC (k := .i64) (w := W) (a := none) (len := 0) (cap := 0) (zs := []) (.inl ⟨rfl, rfl, rfl, rfl⟩)
      exact ⟨_, _, _, l, rfl, h1, h3, h4, h5, Kd.C_of_reads (d := (0 : Int)) (h1 := fun _ => rfl) h2⟩
    · simp at hcs; subst hcs
      obtain ⟨l', h1, h2, h3, h4, h5⟩ := ReadsInt.ofRowC (k := .i64) (w := W) (.inr ⟨_, rfl, hl, hm, by simpa using hz, hcell, hwz⟩)
      exact ⟨_, _, _, l', rfl, h1, h3, h4, h5, Kd.C_of_reads (d := (0 : Int)) (h1 := fun _ => rfl) h2⟩
  subst e0_1; subst hr0
  obtain ⟨a1, rfl, rfl, rfl, w1⟩ := open_int Try.underlying3 (hval 1 3 v1 rfl rfl) h1
  clear hA0 hval0 hsz0
  obtain ⟨k, h⟩ := Pure.FnExactFindMatrix a0 l0 a1 w0 hm0 hw0 w1
  refine (Q.laws_FnExactFindMatrix.calls k a0 _ _ l0 a1 true W hC0 hc0 h).mono fun e W' hp => ?_
  obtain ⟨he, bel⟩ := hp
  subst he
  exact ⟨_, rfl, _, _, _, [], _, [], hW', trodAll_mk1 (shut_bool Try.underlying4 _), (trodAll_cons_mk (Below.trod laidOut (by kernel_rfl) (of_decide_eq_true (by kernel_rfl)) k0 bel lt0) (trodAll_cons_mk (shut_int Try.underlying3 w1) trodAll_mk0)), rfl, bel.frame _, fun h => by cases h⟩
theorem over : Rows.fnExactFindMatrixRow.holds Try.pinned (OpenSpec.ofChange Rows.fnExactFindMatrixSpec) :=
  OpenClaim.holds_of_wide 6 Try.f6 rfl rfl rfl rfl rfl rfl rfl ⟨rfl, rfl, rfl, rfl, rfl⟩ rfl rfl rfl rfl rfl (by kernel_rfl) Try.func6 (by kernel_rfl)
    (of_decide_eq_true (by kernel_rfl)) (by unfold Func.isWrapper; first | (rw [if_pos (by decide +kernel)]; kernel_rfl) | (rw [if_neg (by decide +kernel)]; exact ⟨rfl, rfl⟩))
    (fun os started H enc _ => lifted os started H enc)
theorem proved : Rows.FnExactFindMatrixSaid := over
#print axioms proved
end Go.Proofs.Ytbhckhblonkajaa.fnExactFindMatrix
namespace Go.Proofs.Ytbhckhblonkajaa
theorem fnExactFindMatrix_holds : Rows.FnExactFindMatrixSaid := fnExactFindMatrix.proved
end Go.Proofs.Ytbhckhblonkajaa
