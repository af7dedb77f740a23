/- Part of a proof: contracts and lemmas that the row's text uses; joined by a program. -/
import Derived.Test.YtbhckhblonkajaaC04
import Derived.Test.YtbhckhblonkajaaC12
import Derived.Test.YtbhckhblonkajaaC13
import Derived.Test.YtbhckhblonkajaaC14
import Derived.Test.YtbhckhblonkajaaC20
import Derived.Test.YtbhckhblonkajaaC21
import Derived.Test.YtbhckhblonkajaaC22
import Derived.Test.YtbhckhblonkajaaC25
set_option linter.unusedVariables false
set_option linter.unusedSimpArgs false
namespace Go.Proofs.Ytbhckhblonkajaa.Q
open Go.RowKit Go.Proofs.YtbhckhblonkajaaW.PrintWords Go.Proofs.YtbhckhblonkajaaW.PrintLast Go.Proofs.YtbhckhblonkajaaW.PrintMore
def Serves (p r n : Int) (l : List Int) (T : List Int → Bool) : Prop := ∀ X : List Int, X.length ≤ 64 → ∃ v : Int × List Int, v.2.length ≤ 256 ∧ Ev (fun k => impl_FromMatrix.f k p r n X) v ∧ Ev (fun k => spec_FromMatrix.f k p r n X) v ∧ T X = (decide (v.1 = n) && decide (v.2 = l))
theorem serves (p r n : Int) (l : List Int) : ∃ T, Serves p r n l T := by
  refine ⟨fun X => if h : X.length ≤ maxLen then (decide ((Classical.choose (FromMatrix.is p r n X h)).1 = n) && decide ((Classical.choose (FromMatrix.is p r n X h)).2 = l)) else false, fun X hX => ?_⟩
  have h : X.length ≤ maxLen := by rw [maxLen_eq]; omega
  obtain ⟨h1, h2, h3⟩ := Classical.choose_spec (FromMatrix.is p r n X h)
  exact ⟨_, h1, h2, h3, by simp only [dif_pos h]⟩
theorem impl_fillCells.is (p : Nat) (hp : p < 100) (r n : Int) (l : List Int) (T : List Int → Bool) (hT : Serves (p : Int) r n l T) : ∀ os : List Nat, ∀ X : List Int, X.length ≤ 64 → os.length ≤ 64 → (∀ o ∈ os, o < X.length) →
    (∀ Y, srch p T os X = some Y → Ev (fun k => impl_fillCells.f k n l (p : Int) r n X (os.map (fun (x : Nat) => (x : Int)))) (true, Y)) ∧
    (srch p T os X = none → ∃ X', agree os X X' ∧ Ev (fun k => impl_fillCells.f k n l (p : Int) r n X (os.map (fun (x : Nat) => (x : Int)))) (false, X')) := by
  intro os
  induction os with
  | nil =>
    intro X hX _ _
    obtain ⟨v, h1, h2, h3, h4⟩ := hT X hX
    have hv : Ev (fun k => impl_fillCells.f k n l (p : Int) r n X (([] : List Nat).map (fun (x : Nat) => (x : Int)))) (T X, X) := by
      refine Ev.succ ?_
      simp only [impl_fillCells.f]
      refine Ev.pos rfl (Ev.bind h2 (Ev.bind (impl_EqualMatroid.is v.1 n v.2 l (by rw [maxLen_eq]; omega)) ?_))
      rw [← h4]
      exact Ev.of rfl
    simp only [srch]
    cases h : T X
    · refine ⟨fun Y hY => by simp at hY, fun _ => ⟨X, agree.refl _ _, ?_⟩⟩
      rw [h] at hv; exact hv
    · refine ⟨fun Y hY => ?_, fun hY => by simp at hY⟩
      have : X = Y := by simpa using hY
      rw [h, this] at hv
      rw [this]; exact hv
  | cons o os ih =>
    intro X hX hol ho
    have hoX : o < X.length := ho o List.mem_cons_self
    simp only [List.length_cons] at hol
    have loop : ∀ d c, c + d = p → 1 ≤ c → ∀ Z : List Int, agree (o :: os) X Z →
        (∀ Y, srchV (srch p T os) o X c d = some Y → Ev (fun k => impl_fillCells.l0 k ((o :: os).map (fun (x : Nat) => (x : Int))) (c : Int) n l (p : Int) r n Z) (true, Y)) ∧
        (srchV (srch p T os) o X c d = none → ∃ X', agree (o :: os) X X' ∧ Ev (fun k => impl_fillCells.l0 k ((o :: os).map (fun (x : Nat) => (x : Int))) (c : Int) n l (p : Int) r n Z) (false, X')) := by
      intro d
      induction d with
      | zero =>
        intro c hc _ Z hZ
        refine ⟨fun Y h => by simp [srchV] at h, fun _ => ⟨Z, hZ, Ev.succ ?_⟩⟩
        simp only [impl_fillCells.l0]
        exact Ev.neg (by omega) (Ev.of rfl)
      | succ d ihd =>
        intro c hc hc1 Z hZ
        have hZl := hZ.1
        obtain ⟨a, b⟩ := ih (Z.set o (c : Int)) (by rw [List.length_set, ← hZl]; exact hX) (by omega) (fun q hq => by rw [List.length_set, ← hZl]; exact ho q (List.mem_cons_of_mem _ hq))
        have e : srch p T os (Z.set o (c : Int)) = srch p T os (X.set o (c : Int)) := (srch_agree p T os _ _ (hZ.set (c : Int))).symm
        rw [e] at a b
        have enter : ∀ v w, Ev (fun k => impl_fillCells.f k n l (p : Int) r n (Z.set o (c : Int)) (os.map (fun (x : Nat) => (x : Int)))) v → (v.1 = true → w = (true, v.2)) → (v.1 = false → Ev (fun k => impl_fillCells.l0 k ((o :: os).map (fun (x : Nat) => (x : Int))) ((c + 1 : Nat) : Int) n l (p : Int) r n v.2) w) →
            Ev (fun k => impl_fillCells.l0 k ((o :: os).map (fun (x : Nat) => (x : Int))) (c : Int) n l (p : Int) r n Z) w := fun v w hv h1 h2 => by
          have er : rd ((o :: os).map (fun (x : Nat) => (x : Int))) 0 = (o : Int) := rfl
          have el : (((o :: os).map (fun (x : Nat) => (x : Int))).length : Int) = (os.length : Int) + 1 := by simp
          refine Ev.succ ?_
          simp only [impl_fillCells.l0]
          rw [er, el]
          refine Ev.pos (by omega) (Ev.pos (by omega) (Ev.pos (by omega) (Ev.pos (by omega) (Ev.pos (by omega) (Ev.bind (v := v) hv ?_)))))
          by_cases h : v.1 = true
          · exact Ev.pos h (Ev.of (by rw [h1 h]))
          · refine Ev.neg h ?_
            rw [wnext (by omega)]
            exact h2 (by simpa using h)
        simp only [srchV]
        cases hg : srch p T os (X.set o (c : Int)) with
        | some W =>
          refine ⟨fun Y h => ?_, fun h => by simp at h⟩
          have : W = Y := by simpa using h
          subst this
          exact enter _ _ (a W hg) (fun _ => rfl) (fun h => by simp at h)
        | none =>
          obtain ⟨X2, g1, g2⟩ := b hg
          have g3 : agree (o :: os) X X2 := hZ.trans (agree.of_set g1)
          obtain ⟨a2, b2⟩ := ihd (c + 1) (by omega) (by omega) X2 g3
          refine ⟨fun Y h => enter _ _ g2 (fun h => by simp at h) (fun _ => a2 Y h), fun h => ?_⟩
          obtain ⟨X3, k1, k2⟩ := b2 h
          exact ⟨X3, k1, enter _ _ g2 (fun h => by simp at h) (fun _ => k2)⟩
    have hne : ¬ (((o :: os).map (fun (x : Nat) => (x : Int))).length : Int) = 0 := by simp; omega
    by_cases hp1 : 1 ≤ p
    · obtain ⟨a, b⟩ := loop (p - 1) 1 (by omega) (Nat.le_refl _) X (agree.refl _ _)
      refine ⟨fun Y h => Ev.succ ?_, fun h => ?_⟩
      · simp only [impl_fillCells.f]
        exact Ev.neg hne (a Y h)
      · obtain ⟨X', g1, g2⟩ := b h
        refine ⟨X', g1, Ev.succ ?_⟩
        simp only [impl_fillCells.f]
        exact Ev.neg hne g2
    · have hp0 : p = 0 := by omega
      subst hp0
      refine ⟨fun Y h => by simp [srch, srchV] at h, fun h => ⟨X, agree.refl _ _, Ev.succ ?_⟩⟩
      simp only [impl_fillCells.f]
      refine Ev.neg hne (Ev.succ ?_)
      simp only [impl_fillCells.l0]
      exact Ev.neg (by omega) (Ev.of rfl)
structure CInv (p s n len : Nat) (isO : Nat → Bool) (X : List Int) : Prop where
  ln : X.length = len
  op : ∀ k, k < len → isO k = true → s.testBit (k % n) = false ∧ 1 ≤ rd X (k : Int) ∧ rd X (k : Int) < (p : Int)
  cl : ∀ k, k < len → isO k = false → s.testBit (k % n) = true ∨ rd X (k : Int) = 0
theorem CInv.set {p s n len : Nat} {isO : Nat → Bool} {X : List Int} (h : CInv p s n len isO X) {o c : Nat} (ho : o < len) (hO : isO o = true) (h1 : 1 ≤ c) (h2 : c < p) : CInv p s n len isO (X.set o (c : Int)) := by
  have hl := h.ln
  refine ⟨by rw [List.length_set]; exact h.ln, fun k hk hk2 => ?_, fun k hk hk2 => ?_⟩
  · rw [rd_set (by omega) (by omega)]
    refine ⟨(h.op k hk hk2).1, ?_⟩
    split
    · omega
    · exact (h.op k hk hk2).2
  · rw [rd_set (by omega) (by omega), if_neg (fun e => by rw [e, hO] at hk2; exact absurd hk2 (by decide))]
    exact h.cl k hk hk2
theorem spec_l26Next.loop (p s n len : Nat) (hp : 2 ≤ p ∧ p < 100) (hs : s < 256) (hn : n ≤ 8) (hlen : len ≤ 64) (hn0 : 0 < len → 0 < n) (isO : Nat → Bool) (r : Int) : ∀ m, m ≤ len → ∀ X, CInv p s n len isO X →
    Ev (fun k => spec_l26Next.l0 k (s : Int) ((m : Int) - 1) (p : Int) r (n : Int) X) (nxtR p ((List.range m).filter isO).reverse X) := by
  intro m
  induction m with
  | zero =>
    intro _ X hX
    refine Ev.succ ?_
    simp only [spec_l26Next.l0]
    exact Ev.neg (by omega) (Ev.of rfl)
  | succ m ih =>
    intro hm X hX
    have hml : m < len := by omega
    have hn1 := hn0 (by omega)
    have hmn : m % n < n := Nat.mod_lt _ hn1
    have hXl := hX.ln
    have et : Int.tmod ((m + 1 : Nat) - 1 : Int) (n : Int) = ((m % n : Nat) : Int) := by
      rw [show ((m + 1 : Nat) : Int) - 1 = (m : Int) by omega]
      exact (Int.ofNat_tmod m n).symm
    have hl2 := spec_l2Has.is (s := (s : Int)) (e := ((m % n : Nat) : Int)) (by omega) (by omega) (by omega) (by omega)
    rw [has_nat] at hl2
    have em : ((m + 1 : Nat) : Int) - 1 = (m : Int) := by omega
    have ew : wrap64 ((m : Int) - 1) = (m : Int) - 1 := w64 (by omega) (by omega)
    have er : (List.range (m + 1)).filter isO = (List.range m).filter isO ++ (if isO m then [m] else []) := by
      rw [List.range_succ, List.filter_append]
      congr 1
      cases h : isO m <;> simp [h]
    refine Ev.succ ?_
    simp only [spec_l26Next.l0]
    rw [et, em]
    refine Ev.pos (by omega) (Ev.neg (by omega) (Ev.bind_some hl2 ?_))
    by_cases hb : s.testBit (m % n) = true
    · have hO : isO m = false := by
        rw [Bool.eq_false_iff]
        intro h
        have := (hX.op m hml h).1
        rw [hb] at this
        exact absurd this (by decide)
      refine Ev.pos hb (Ev.succ ?_)
      simp only [spec_l26Next.j1]
      refine Ev.pos trivial ?_
      rw [ew, er, hO]
      simp only [Bool.false_eq_true, if_false, List.append_nil]
      exact ih (by omega) X hX
    · refine Ev.neg hb (Ev.pos (by omega) (Ev.pos (by omega) (Ev.succ ?_)))
      simp only [spec_l26Next.j1]
      by_cases h0 : rd X (m : Int) = 0
      · have hO : isO m = false := by
          rw [Bool.eq_false_iff]
          intro h
          have := (hX.op m hml h).2.1
          omega
        refine Ev.pos (by simp [h0]) ?_
        rw [ew, er, hO]
        simp only [Bool.false_eq_true, if_false, List.append_nil]
        exact ih (by omega) X hX
      · have hO : isO m = true := by
          cases h : isO m
          · rcases hX.cl m hml h with h1 | h1
            · exact absurd h1 hb
            · exact absurd h1 h0
          · rfl
        have hop := hX.op m hml hO
        refine Ev.neg (by simp [h0]) (Ev.pos (by omega) (Ev.pos (by omega) ?_))
        rw [er, hO]
        simp only [if_true, List.reverse_append, List.reverse_cons, List.reverse_nil, List.nil_append, List.singleton_append, nxtR]
        rw [w64 (n := (p : Int) - 1) (by omega) (by omega)]
        by_cases hlt : rd X (m : Int) < (p : Int) - 1
        · rw [if_pos hlt]
          refine Ev.pos hlt (Ev.of ?_)
          rw [w64 (by omega) (by omega)]; rfl
        · rw [if_neg hlt]
          refine Ev.neg hlt ?_
          rw [ew]
          exact ih (by omega) _ (hX.set hml hO (c := 1) (by omega) (by omega))
def encF (p r n : Int) : Option (List Int) → Int × Int × Int × List Int × Bool
  | some Y => (p, r, n, Y, true)
  | none => (0, 0, 0, [], false)
theorem spec_FindMatrix.search (p s n len : Nat) (hp : 2 ≤ p ∧ p < 100) (hs : s < 256) (hn : n ≤ 8) (hlen : len ≤ 64) (hn0 : 0 < len → 0 < n) (isO : Nat → Bool) (r : Int) (l : List Int) (T : List Int → Bool) (hT : Serves (p : Int) r (n : Int) l T) (X : List Int) (hX : CInv p s n len isO X) (h1 : ∀ k : Nat, k < len → isO k = true → rd X (k : Int) = 1) :
    Ev (fun k => spec_FindMatrix.l0 k (s : Int) (n : Int) l (p : Int) r (n : Int) X) (encF (p : Int) r (n : Int) (srch p T ((List.range len).filter isO) X)) := by
  have mem : ∀ o, o ∈ ((List.range len).filter isO).reverse → o < len ∧ isO o = true := fun o ho => by
    rw [List.mem_reverse, List.mem_filter, List.mem_range] at ho; exact ho
  have cond : ∀ X, CInv p s n len isO X → ∀ w, (T X = true → w = (((p : Int), r, (n : Int), X, true) : Int × Int × Int × List Int × Bool)) →
      (T X = false → ((nxtR p ((List.range len).filter isO).reverse X).1 = true → Ev (fun k => spec_FindMatrix.l0 k (s : Int) (n : Int) l (p : Int) r (n : Int) (nxtR p ((List.range len).filter isO).reverse X).2) w) ∧ ((nxtR p ((List.range len).filter isO).reverse X).1 = false → w = (0, 0, 0, [], false))) →
      Ev (fun k => spec_FindMatrix.l0 k (s : Int) (n : Int) l (p : Int) r (n : Int) X) w := by
    intro X hX w a b
    have hXl := hX.ln
    obtain ⟨v, h1, h2, h3, h4⟩ := hT X (by omega)
    refine Ev.succ ?_
    simp only [spec_FindMatrix.l0]
    refine Ev.bind h3 (Ev.bind (spec_EqualMatroid.is v.1 (n : Int) v.2 l (by rw [maxLen_eq]; omega)) ?_)
    rw [← h4]
    cases h : T X
    · refine Ev.neg (by decide) ?_
      have hnx := spec_l26Next.loop p s n len hp hs hn hlen hn0 isO r len (Nat.le_refl _) X hX
      have e : Ev (fun k => spec_l26Next.f k (p : Int) r (n : Int) X (s : Int)) (nxtR p ((List.range len).filter isO).reverse X) := by
        unfold spec_l26Next.f
        rw [hXl, w64 (n := (len : Int) - 1) (by omega) (by omega)]; exact hnx
      refine Ev.bind e ?_
      cases hc : (nxtR p ((List.range len).filter isO).reverse X).1
      · refine Ev.neg (by decide) (Ev.of ?_)
        rw [(b h).2 hc]
      · exact Ev.pos rfl ((b h).1 hc)
    · refine Ev.pos rfl (Ev.of ?_)
      rw [a h]
  obtain ⟨a, b⟩ := odo hp.1 T (fun X v => Ev (fun k => spec_FindMatrix.l0 k (s : Int) (n : Int) l (p : Int) r (n : Int) X) (encF (p : Int) r (n : Int) v)) (CInv p s n len isO) ((List.range len).filter isO).reverse
    (List.pairwise_reverse.2 ((List.Pairwise.filter _ List.nodup_range).imp (fun h e => h e.symm)))
    (fun X hX o ho => by rw [hX.ln]; exact (mem o ho).1)
    (fun X o c hX ho h1 h2 => hX.set (mem o ho).1 (mem o ho).2 h1 h2)
    (fun X hX h => cond X hX _ (fun _ => rfl) (fun h2 => by rw [h] at h2; exact absurd h2 (by decide)))
    (fun X v hX h h2 h3 => cond X hX _ (fun h4 => by rw [h] at h4; exact absurd h4 (by decide)) (fun _ => ⟨h2, fun h4 => by rw [h3 h4]; rfl⟩))
    ((List.range len).filter isO) [] (by simp) X hX (fun o ho => by
      rw [List.mem_filter, List.mem_range] at ho
      exact h1 o ho.1 ho.2)
  cases h : srch p T ((List.range len).filter isO) X with
  | some Y => exact a Y h
  | none => exact b h none (fun h => by simp [nxtR] at h) (fun _ => rfl)
theorem spec_HasElement.is {s e : Nat} (hs : s < 256) (he : e < 8) : spec_HasElement.f (s : Int) (e : Int) = some (s.testBit e) := by
  have h : ∀ (s : Fin 256) (e : Fin 8), spec_HasElement.f (s.val : Int) (e.val : Int) = some (s.val.testBit e.val) := by decide +kernel
  exact h ⟨s, hs⟩ ⟨e, he⟩
theorem impl_HasElement.nat {s e : Nat} (hs : s < 256) (he : e < 8) : impl_HasElement.f (s : Int) (e : Int) = some (s.testBit e) := by
  have h : ∀ (s : Fin 256) (e : Fin 8), impl_HasElement.f (s.val : Int) (e.val : Int) = some (s.val.testBit e.val) := by decide +kernel
  exact h ⟨s, hs⟩ ⟨e, he⟩
theorem spec_ElementsOf.is {s : Nat} (hs : s < 256) : Ev (fun k => spec_ElementsOf.f k (s : Int)) (els s) := by
  have key : ∀ d i, i + d = 8 → ∀ acc : List Int, acc.length ≤ i → Ev (fun k => spec_ElementsOf.l0 k (s : Int) acc (i : Int)) (acc ++ elsFrom s i d) := by
    intro d
    induction d with
    | zero =>
      intro i hi acc ha
      refine Ev.succ ?_
      simp only [spec_ElementsOf.l0]
      exact Ev.neg (by omega) (Ev.of (by simp [elsFrom]))
    | succ d ih =>
      intro i hi acc ha
      refine Ev.succ ?_
      simp only [spec_ElementsOf.l0]
      refine Ev.pos (by omega) (Ev.bind_some (spec_HasElement.is hs (by omega)) ?_)
      rw [wnext (by omega)]
      by_cases h : s.testBit i = true
      · refine Ev.pos h (Ev.pos (by omega) ?_)
        have := ih (i + 1) (by omega) (acc ++ [(i : Int)]) (by simp; omega)
        rwa [show acc ++ elsFrom s i (d + 1) = acc ++ [(i : Int)] ++ elsFrom s (i + 1) d by simp [elsFrom, h]]
      · refine Ev.neg h ?_
        have := ih (i + 1) (by omega) acc (by omega)
        rwa [show acc ++ elsFrom s i (d + 1) = acc ++ elsFrom s (i + 1) d by simp [elsFrom, h]]
  exact key 8 0 (by omega) [] (by simp)
def rowN (s i : Nat) : Nat := (rd (els s) (i : Int)).toNat
theorem rowN_is {s i : Nat} (hi : i < (els s).length) : rd (els s) (i : Int) = (rowN s i : Int) ∧ s.testBit (rowN s i) = true ∧ rowN s i < 8 := by
  obtain ⟨x, h1, h2, h3⟩ := mem_els.1 (rd_mem (l := els s) (i := i) hi)
  have : rowN s i = x := by unfold rowN; omega
  rw [this]
  exact ⟨h3, h2, h1⟩
def isO (s n : Nat) (l : List Int) (k : Nat) : Bool := !s.testBit (k % n) && hasI l (swp s (rowN s (k / n)) (k % n))
def isU (s n k : Nat) : Bool := k % n == rowN s (k / n)
def v0 (s n : Nat) (l : List Int) (k : Nat) : Int := if isU s n k || isO s n l k then 1 else 0
def v1 (s n : Nat) (k : Nat) : Int := if isU s n k then 1 else 0
theorem mod_at {i e n : Nat} (he : e < n) : (i * n + e) % n = e := by rw [Nat.add_comm, Nat.add_mul_mod_self_right, Nat.mod_eq_of_lt he]
theorem div_at {i e n : Nat} (he : e < n) : (i * n + e) / n = i := by
  rw [Nat.add_comm, Nat.add_mul_div_right _ _ (by omega), Nat.div_eq_of_lt he, Nat.zero_add]
theorem range_snoc {α : Type} (f : Nat → α) (m : Nat) : (List.range (m + 1)).map f = (List.range m).map f ++ [f m] := by
  rw [List.range_succ, List.map_append]; rfl
theorem spec_l26Start.is (n : Nat) (l : List Int) (hl : l.length ≤ maxLen) (hM : Mat n l) (s : Nat) (hsl : (s : Int) ∈ l) (p : Int) :
    Ev (fun k => spec_l26Start.f k (n : Int) l p (s : Int)) (p, ((els s).length : Int), (n : Int), (List.range ((els s).length * n)).map (v0 s n l)) := by
  have hn := hM.n8
  have hp : (2 : Nat) ^ n ≤ 256 := Nat.pow_le_pow_right (n := 2) (by decide) hn
  obtain ⟨s2, hs2, es⟩ := hM.sets _ hsl
  obtain rfl : s = s2 := by omega
  have hs : s < 256 := by omega
  have h8 := els_length (s := s)
  have row : ∀ i, i < (els s).length → ∀ d e, e + d = n → ∀ v, Ev (fun k => spec_l26Start.l0 k (s : Int) (els s) ((i + 1 : Nat) : Int) (n : Int) l p ((els s).length : Int) (n : Int) ((List.range ((i + 1) * n)).map (v0 s n l))) v →
      Ev (fun k => spec_l26Start.l1 k (s : Int) (els s) (i : Int) (e : Int) (n : Int) l p ((els s).length : Int) (n : Int) ((List.range (i * n + e)).map (v0 s n l))) v := by
    intro i hi d
    obtain ⟨hr1, hr2, hr3⟩ := rowN_is hi
    induction d with
    | zero =>
      intro e he v hv
      have : e = n := by omega
      subst this
      refine Ev.succ ?_
      simp only [spec_l26Start.l1]
      refine Ev.neg (by omega) ?_
      rw [wnext (by omega)]
      rwa [show (i + 1) * e = i * e + e by rw [Nat.add_mul, Nat.one_mul]] at hv
    | succ d ih =>
      intro e he v hv
      have hen : e < n := by omega
      have hin : i * n ≤ 8 * 8 := Nat.mul_le_mul (by omega) hn
      have hlen : ((List.range (i * n + e)).map (v0 s n l)).length = i * n + e := by rw [List.length_map, List.length_range]
      have hnx := ih (e + 1) (by omega) v hv
      rw [show i * n + (e + 1) = i * n + e + 1 by omega, range_snoc] at hnx
      have hl2 := spec_l2Has.is (s := (s : Int)) (e := (e : Int)) (by omega) (by omega) (by omega) (by omega)
      rw [has_nat] at hl2
      have hv0 : v0 s n l (i * n + e) = if (e == rowN s i) || (!s.testBit e && hasI l (swp s (rowN s i) e)) then 1 else 0 := by
        unfold v0 isU isO
        rw [mod_at hen, div_at hen]
      refine Ev.succ ?_
      simp only [spec_l26Start.l1]
      refine Ev.pos (by omega) (Ev.bind_some hl2 ?_)
      by_cases hb : s.testBit e = true
      · refine Ev.pos hb (Ev.pos (by omega) (Ev.pos (by omega) (Ev.bind_some (v := v0 s n l (i * n + e)) ?_ (Ev.pos (by omega) ?_))))
        · rw [hr1, hv0, hb]
          unfold spec_l1Bit.f
          by_cases h : e = rowN s i
          · simp [h]
          · have h2 : ¬ (e : Int) = (rowN s i : Int) := by omega
            simp [h, h2]
        · rw [wnext (by omega)]; exact hnx
      · have hb2 : s.testBit e = false := by simpa using hb
        obtain ⟨c, c1, c2, c3⟩ := spec_CircuitOf.is n l hl hM s e hsl hen hb2
        have hl3 := spec_l2Has.is (s := (c : Int)) (e := (rowN s i : Int)) (by omega) (by omega) (by omega) (by omega)
        rw [has_nat, c2 _ hr2] at hl3
        refine Ev.neg hb (Ev.bind c3 (Ev.pos (by omega) (Ev.pos (by omega) ?_)))
        rw [hr1]
        refine Ev.bind_some hl3 (Ev.bind_some (v := v0 s n l (i * n + e)) ?_ (Ev.pos (by omega) ?_))
        · rw [hv0, hb2]
          have hne : ¬ e = rowN s i := fun h => by rw [h, hr2] at hb2; exact absurd hb2 (by decide)
          unfold spec_l1Bit.f
          cases hasI l (swp s (rowN s i) e) <;> simp [hne]
        · rw [wnext (by omega)]; exact hnx
  have rows : ∀ d i, i + d = (els s).length → Ev (fun k => spec_l26Start.l0 k (s : Int) (els s) (i : Int) (n : Int) l p ((els s).length : Int) (n : Int) ((List.range (i * n)).map (v0 s n l))) (p, ((els s).length : Int), (n : Int), (List.range ((els s).length * n)).map (v0 s n l)) := by
    intro d
    induction d with
    | zero =>
      intro i hi
      have : i = (els s).length := by omega
      refine Ev.succ ?_
      simp only [spec_l26Start.l0]
      exact Ev.neg (by omega) (Ev.of (by rw [this]))
    | succ d ih =>
      intro i hi
      refine Ev.succ ?_
      simp only [spec_l26Start.l0]
      refine Ev.pos (by omega) ?_
      have := row i (by omega) n 0 (by omega) _ (ih (i + 1) (by omega))
      exact this
  unfold spec_l26Start.f
  refine Ev.bind (spec_ElementsOf.is hs) ?_
  have := rows (els s).length 0 (by omega)
  rw [Nat.zero_mul] at this
  exact this
def Part (s n len m : Nat) (X : List Int) : Prop := X.length = len ∧ ∀ k : Nat, k < len → rd X (k : Int) = if k < m then v1 s n k else 0
theorem impl_FindMatrix.start (n : Nat) (l : List Int) (hl : l.length ≤ maxLen) (hM : Mat n l) (s : Nat) (hsl : (s : Int) ∈ l) (p : Int) :
    ∀ i, i ≤ (els s).length → ∀ X, Part s n ((els s).length * n) (i * n) X → ∃ X', Part s n ((els s).length * n) ((els s).length * n) X' ∧
      ∀ v, Ev (fun k => impl_FindMatrix.l0 k (s : Int) (((List.range ((els s).length * n)).filter (isO s n l)).map (fun (x : Nat) => (x : Int))) (els s) ((els s).length : Int) ((els s).length : Int) (n : Int) l p ((els s).length : Int) (n : Int) X') v →
        Ev (fun k => impl_FindMatrix.l0 k (s : Int) (((List.range (i * n)).filter (isO s n l)).map (fun (x : Nat) => (x : Int))) (els s) ((els s).length : Int) (i : Int) (n : Int) l p ((els s).length : Int) (n : Int) X) v := by
  have hn := hM.n8
  have hp : (2 : Nat) ^ n ≤ 256 := Nat.pow_le_pow_right (n := 2) (by decide) hn
  obtain ⟨s2, hs2, es⟩ := hM.sets _ hsl
  obtain rfl : s = s2 := by omega
  have hs : s < 256 := by omega
  have h8 := els_length (s := s)
  have row : ∀ i, i < (els s).length → ∀ d e, e + d = n → ∀ X, Part s n ((els s).length * n) (i * n + e) X → ∃ X', Part s n ((els s).length * n) ((i + 1) * n) X' ∧
      ∀ v, Ev (fun k => impl_FindMatrix.l0 k (s : Int) (((List.range ((i + 1) * n)).filter (isO s n l)).map (fun (x : Nat) => (x : Int))) (els s) ((els s).length : Int) ((i + 1 : Nat) : Int) (n : Int) l p ((els s).length : Int) (n : Int) X') v →
        Ev (fun k => impl_FindMatrix.l1 k (s : Int) (((List.range (i * n + e)).filter (isO s n l)).map (fun (x : Nat) => (x : Int))) (i : Int) (rd (els s) (i : Int)) (e : Int) (els s) ((els s).length : Int) (i : Int) (n : Int) l p ((els s).length : Int) (n : Int) X) v := by
    intro i hi d
    obtain ⟨hr1, hr2, hr3⟩ := rowN_is hi
    induction d with
    | zero =>
      intro e he X hX
      have : e = n := by omega
      subst this
      have e1 : (i + 1) * e = i * e + e := by rw [Nat.add_mul, Nat.one_mul]
      refine ⟨X, by rw [e1]; exact hX, fun v hv => Ev.succ ?_⟩
      simp only [impl_FindMatrix.l1]
      refine Ev.neg (by omega) ?_
      rw [wnext (by omega)]
      rwa [e1] at hv
    | succ d ih =>
      intro e he X hX
      have hen : e < n := by omega
      have hin : i * n ≤ 8 * 8 := Nat.mul_le_mul (by omega) hn
      have hlt : i * n + e < (els s).length * n := idx_lt hi hen
      have hXl := hX.1
      have hflen : (((List.range (i * n + e)).filter (isO s n l)).map (fun (x : Nat) => (x : Int))).length ≤ 200 := by
        rw [List.length_map]
        have := List.length_filter_le (isO s n l) (List.range (i * n + e))
        rw [List.length_range] at this
        omega
      have hO : isO s n l (i * n + e) = (!s.testBit e && hasI l (swp s (rowN s i) e)) := by
        unfold isO
        rw [mod_at hen, div_at hen]
      have hU : isU s n (i * n + e) = (e == rowN s i) := by
        unfold isU
        rw [mod_at hen, div_at hen]
      have efl : ((List.range (i * n + (e + 1))).filter (isO s n l)).map (fun (x : Nat) => (x : Int)) = ((List.range (i * n + e)).filter (isO s n l)).map (fun (x : Nat) => (x : Int)) ++ (if isO s n l (i * n + e) then [((i * n + e : Nat) : Int)] else []) := setsB_take _ _
      have hi8 : i ≤ 8 := by omega
      have he8 : e ≤ 8 := by omega
      have hwn : e < 9223372036854775807 := by omega
      have hpos : (0 : Int) ≤ ((i * n + e : Nat) : Int) := Int.natCast_nonneg _
      have hltX : ((i * n + e : Nat) : Int) < (X.length : Int) := by rw [hXl]; exact Int.ofNat_lt.2 hlt
      by_cases hu : e = rowN s i
      · have hOf : isO s n l (i * n + e) = false := by rw [hO, hu, hr2]; rfl
        obtain ⟨X', h1, h2⟩ := ih (e + 1) (by omega) (X.set (i * n + e) 1) ⟨by rw [List.length_set]; exact hXl, fun k hk => by
          rw [rd_set (by omega) (by omega), hX.2 k hk]
          by_cases ek : k = i * n + e
          · rw [if_pos ek, if_pos (by omega), ek]
            unfold v1
            rw [hU]; simp [hu]
          · rw [if_neg ek]
            by_cases ek2 : k < i * n + e
            · rw [if_pos ek2, if_pos (by omega)]
            · rw [if_neg ek2, if_neg (by omega)]⟩
        refine ⟨X', h1, fun v hv => Ev.succ ?_⟩
        have h3 := h2 v hv
        rw [efl, hOf] at h3
        simp only [Bool.false_eq_true, if_false, List.append_nil] at h3
        simp only [impl_FindMatrix.l1]
        refine Ev.pos (by omega) (Ev.pos (by omega) ?_)
        rw [widx hi8 hn he8, wnext hwn]
        exact Ev.pos hpos (Ev.pos hltX h3)
      · have hv1 : v1 s n (i * n + e) = 0 := by
          unfold v1
          rw [hU]; simp [hu]
        obtain ⟨X', h1, h2⟩ := ih (e + 1) (by omega) X ⟨hXl, fun k hk => by
          rw [hX.2 k hk]
          by_cases ek : k = i * n + e
          · rw [if_neg (by omega), if_pos (by omega), ek, hv1]
          · by_cases ek2 : k < i * n + e
            · rw [if_pos ek2, if_pos (by omega)]
            · rw [if_neg ek2, if_neg (by omega)]⟩
        refine ⟨X', h1, fun v hv => Ev.succ ?_⟩
        have h3 := h2 v hv
        rw [efl] at h3
        simp only [impl_FindMatrix.l1]
        refine Ev.pos (by omega) (Ev.neg (by omega) (Ev.bind_some (impl_HasElement.nat hs (by omega)) ?_))
        by_cases hb : s.testBit e = true
        · have hOf : isO s n l (i * n + e) = false := by rw [hO, hb]; rfl
          rw [hOf] at h3
          simp only [Bool.false_eq_true, if_false, List.append_nil] at h3
          refine Ev.pos hb ?_
          rw [wnext (by omega)]; exact h3
        · have hb2 : s.testBit e = false := by simpa using hb
          obtain ⟨c, c1, c2, c3⟩ := impl_circuit.is (n : Int) l hl s e hs (by omega) hb2
          have hOe : isO s n l (i * n + e) = c.testBit (rowN s i) := by rw [hO, hb2, c2 _ hr2]; rfl
          refine Ev.neg hb (Ev.bind c3 ?_)
          rw [hr1]
          refine Ev.bind_some (impl_HasElement.nat c1 hr3) ?_
          rw [hr1] at h3
          by_cases hc : c.testBit (rowN s i) = true
          · rw [hOe, hc] at h3
            simp only [if_true] at h3
            refine Ev.pos hc (Ev.pos (by omega) ?_)
            rw [widx hi8 hn he8, wnext hwn]; exact h3
          · rw [hOe] at h3
            rw [if_neg hc, List.append_nil] at h3
            refine Ev.neg hc ?_
            rw [wnext (by omega)]; exact h3
  have rows : ∀ d i, i + d = (els s).length → ∀ X, Part s n ((els s).length * n) (i * n) X → ∃ X', Part s n ((els s).length * n) ((els s).length * n) X' ∧
      ∀ v, Ev (fun k => impl_FindMatrix.l0 k (s : Int) (((List.range ((els s).length * n)).filter (isO s n l)).map (fun (x : Nat) => (x : Int))) (els s) ((els s).length : Int) ((els s).length : Int) (n : Int) l p ((els s).length : Int) (n : Int) X') v →
        Ev (fun k => impl_FindMatrix.l0 k (s : Int) (((List.range (i * n)).filter (isO s n l)).map (fun (x : Nat) => (x : Int))) (els s) ((els s).length : Int) (i : Int) (n : Int) l p ((els s).length : Int) (n : Int) X) v := by
    intro d
    induction d with
    | zero =>
      intro i hi X hX
      have : i = (els s).length := by omega
      subst this
      exact ⟨X, hX, fun v hv => hv⟩
    | succ d ih =>
      intro i hi X hX
      obtain ⟨X1, h1, h2⟩ := row i (by omega) n 0 (by omega) X hX
      obtain ⟨X2, h3, h4⟩ := ih (i + 1) (by omega) X1 h1
      refine ⟨X2, h3, fun v hv => Ev.succ ?_⟩
      simp only [impl_FindMatrix.l0]
      exact Ev.pos (by omega) (Ev.pos (by omega) (Ev.pos (by omega) (h2 v (h4 v hv))))
  intro i hi X hX
  exact rows ((els s).length - i) i (by omega) X hX
theorem FindMatrix.go (n : Nat) (l : List Int) (hl : l.length ≤ maxLen) (hM : Mat n l) (p : Nat) (hp : 2 ≤ p ∧ p < 100) :
    ∃ v : Int × Int × Int × List Int × Bool, v.2.2.2.1.length ≤ 64 ∧ Ev (fun k => impl_FindMatrix.j0 k (p : Int) false (n : Int) l) v ∧ Ev (fun k => spec_FindMatrix.j0 k (p : Int) false (n : Int) l) v := by
  have hn := hM.n8
  have hp2 : (2 : Nat) ^ n ≤ 256 := Nat.pow_le_pow_right (n := 2) (by decide) hn
  have hl0 : 0 < l.length := List.length_pos_iff.2 hM.some_
  obtain ⟨s, hs2, es⟩ := hM.sets _ (rd_mem (l := l) (i := 0) hl0)
  have hsl : (s : Int) ∈ l := by rw [← es]; exact rd_mem hl0
  have er : rd l 0 = (s : Int) := es
  have hs : s < 256 := by omega
  have h8 := els_length (s := s)
  have hlen : (els s).length * n ≤ 8 * 8 := Nat.mul_le_mul h8 hn
  have hc0 : (0 : Int) < (l.length : Int) := by omega
  have hc1 : (0 : Int) ≤ (((els s).length * n : Nat) : Int) := Int.natCast_nonneg _
  have hc2 : ((((els s).length * n : Nat) : Int)).toNat ≤ 35184372088832 := by rw [Int.toNat_natCast]; omega
  obtain ⟨T, hT⟩ := serves (p : Int) ((els s).length : Int) (n : Int) l
  obtain ⟨X1, hX1, hgo⟩ := impl_FindMatrix.start n l hl hM s hsl (p : Int) 0 (Nat.zero_le _) (List.replicate ((els s).length * n) 0) ⟨by rw [List.length_replicate], fun k hk => by
    rw [rd_nat (by rw [List.length_replicate]; exact hk), List.getElem_replicate, if_neg (by omega)]⟩
  have hX0l : ((List.range ((els s).length * n)).map (v0 s n l)).length = (els s).length * n := by rw [List.length_map, List.length_range]
  have rd0 : ∀ k, k < (els s).length * n → rd ((List.range ((els s).length * n)).map (v0 s n l)) (k : Int) = v0 s n l k := fun k hk => by
    rw [rd_nat (by omega), List.getElem_map, List.getElem_range]
  have hn0 : 0 < (els s).length * n → 0 < n := fun h => Nat.pos_of_ne_zero (fun e => by rw [e, Nat.mul_zero] at h; omega)
  have hIO : ∀ k, isO s n l k = true → s.testBit (k % n) = false := fun k h => by
    unfold isO at h
    simp only [Bool.and_eq_true, Bool.not_eq_true'] at h
    exact h.1
  have hag : agree ((List.range ((els s).length * n)).filter (isO s n l)) ((List.range ((els s).length * n)).map (v0 s n l)) X1 := by
    refine ⟨by rw [hX0l]; exact hX1.1.symm, fun i hi => ?_⟩
    have hX1l := hX1.1
    by_cases h : i < (els s).length * n
    · have e1 := rd0 i h
      have e2 := hX1.2 i h
      rw [rd_nat (by omega)] at e1 e2
      rw [List.getElem?_eq_getElem (by omega), List.getElem?_eq_getElem (by omega), e1, e2, if_pos h]
      have h0 : isO s n l i = false := by
        rw [Bool.eq_false_iff]
        exact fun h2 => hi (List.mem_filter.2 ⟨List.mem_range.2 h, h2⟩)
      unfold v0 v1
      rw [h0, Bool.or_false]
    · rw [List.getElem?_eq_none (by omega), List.getElem?_eq_none (by omega)]
  have hmem : ∀ o ∈ (List.range ((els s).length * n)).filter (isO s n l), o < X1.length := fun o ho => by
    rw [hX1.1]; exact List.mem_range.1 (List.mem_filter.1 ho).1
  have hol : ((List.range ((els s).length * n)).filter (isO s n l)).length ≤ 64 := by
    have := List.length_filter_le (isO s n l) (List.range ((els s).length * n))
    rw [List.length_range] at this
    omega
  have hX1l := hX1.1
  obtain ⟨f1, f2⟩ := impl_fillCells.is p hp.2 ((els s).length : Int) (n : Int) l T hT ((List.range ((els s).length * n)).filter (isO s n l)) X1 (by omega) hol hmem
  have hs1 := spec_FindMatrix.search p s n ((els s).length * n) hp hs hn (by omega) hn0 (isO s n l) ((els s).length : Int) l T hT
    (X := (List.range ((els s).length * n)).map (v0 s n l)) ⟨hX0l, fun k hk h => ⟨hIO k h, by
      rw [rd0 k hk]
      unfold v0
      rw [h, Bool.or_true, if_pos rfl]
      omega⟩, fun k hk h => by
      by_cases hb : s.testBit (k % n) = true
      · exact .inl hb
      · right
        have hi : k / n < (els s).length := Nat.div_lt_of_lt_mul (by rw [Nat.mul_comm]; exact hk)
        have hu : isU s n k = false := by
          rw [Bool.eq_false_iff]
          intro h2
          unfold isU at h2
          rw [beq_iff_eq] at h2
          rw [h2, (rowN_is hi).2.1] at hb
          exact hb rfl
        rw [rd0 k hk]
        unfold v0
        rw [h, hu]; rfl⟩ (fun k hk h => by
      rw [rd0 k hk]
      unfold v0
      rw [h, Bool.or_true, if_pos rfl])
  rw [srch_agree p T _ _ _ hag] at hs1
  refine ⟨encF (p : Int) ((els s).length : Int) (n : Int) (srch p T ((List.range ((els s).length * n)).filter (isO s n l)) X1), ?_, ?_, ?_⟩
  · cases hsr : srch p T ((List.range ((els s).length * n)).filter (isO s n l)) X1 with
    | none => exact Nat.zero_le _
    | some Y =>
      have := srch_length _ _ _ _ _ hsr
      show Y.length ≤ 64
      omega
  rotate_left
  ·
    refine Ev.succ ?_
    simp only [spec_FindMatrix.j0]
    refine Ev.neg (by decide) (Ev.pos hc0 ?_)
    rw [er]
    exact Ev.bind (spec_l26Start.is n l hl hM s hsl (p : Int)) hs1
  · refine Ev.succ ?_
    simp only [impl_FindMatrix.j0]
    refine Ev.neg (by decide) (Ev.pos hc0 ?_)
    rw [er]
    refine Ev.bind (impl_ElementsOf.is hs) ?_
    rw [wmul hlen]
    refine Ev.pos hc1 (Ev.pos hc2 ?_)
    rw [Int.toNat_natCast]
    have h := hgo (encF (p : Int) ((els s).length : Int) (n : Int) (srch p T ((List.range ((els s).length * n)).filter (isO s n l)) X1)) (by
      refine Ev.succ ?_
      simp only [impl_FindMatrix.l0]
      refine Ev.neg (by omega) ?_
      cases hsr : srch p T ((List.range ((els s).length * n)).filter (isO s n l)) X1 with
      | some Y => exact Ev.bind (f1 Y hsr) (Ev.pos rfl (Ev.of rfl))
      | none =>
        obtain ⟨X', _, g2⟩ := f2 hsr
        exact Ev.bind g2 (Ev.neg Bool.false_ne_true (Ev.of rfl)))
    rw [Nat.zero_mul] at h
    exact h
theorem FindMatrix.is (n : Int) (l : List Int) (hl : l.length ≤ maxLen) (p : Int) : ∃ v : Int × Int × Int × List Int × Bool, v.2.2.2.1.length ≤ 64 ∧ Ev (fun k => impl_FindMatrix.f k n l p) v ∧ Ev (fun k => spec_FindMatrix.f k n l p) v := by
  have no1 : Ev (fun k => impl_FindMatrix.j0 k p true n l) (0, 0, 0, [], false) := by
    refine Ev.succ ?_
    simp only [impl_FindMatrix.j0]
    exact Ev.pos trivial (Ev.of rfl)
  have no2 : Ev (fun k => spec_FindMatrix.j0 k p true n l) (0, 0, 0, [], false) := by
    refine Ev.succ ?_
    simp only [spec_FindMatrix.j0]
    exact Ev.pos trivial (Ev.of rfl)
  have m1 := impl_IsMatroid.is n l hl
  have m2 := spec_IsMatroid.is n l hl
  unfold impl_FindMatrix.f spec_FindMatrix.f
  by_cases h : matr n l = true
  · obtain ⟨n, rfl, hM⟩ := matr_nat h
    by_cases h6 : (n : Int) > 6
    · exact ⟨(0, 0, 0, [], false), Nat.zero_le _, Ev.bind m1 (Ev.pos h (Ev.pos h6 no1)), Ev.bind m2 (Ev.pos h (Ev.pos h6 no2))⟩
    · by_cases e2 : p = 2
      · subst e2
        obtain ⟨v, vl, a, b⟩ := FindMatrix.go n l hl hM 2 (by decide)
        exact ⟨v, vl, Ev.bind m1 (Ev.pos h (Ev.neg h6 (Ev.pos rfl a))), Ev.bind m2 (Ev.pos h (Ev.neg h6 (Ev.pos rfl b)))⟩
      · by_cases e3 : p = 3
        · subst e3
          obtain ⟨v, vl, a, b⟩ := FindMatrix.go n l hl hM 3 (by decide)
          exact ⟨v, vl, Ev.bind m1 (Ev.pos h (Ev.neg h6 (Ev.neg e2 a))), Ev.bind m2 (Ev.pos h (Ev.neg h6 (Ev.neg e2 b)))⟩
        · have e4 : (p != 3) = true := by simp [e3]
          exact ⟨(0, 0, 0, [], false), Nat.zero_le _, Ev.bind m1 (Ev.pos h (Ev.neg h6 (Ev.neg e2 (by rw [e4]; exact no1)))), Ev.bind m2 (Ev.pos h (Ev.neg h6 (Ev.neg e2 (by rw [e4]; exact no2))))⟩
  · exact ⟨(0, 0, 0, [], false), Nat.zero_le _, Ev.bind m1 (Ev.neg h no1), Ev.bind m2 (Ev.neg h no2)⟩
theorem set_ext_rd {a b : List Int} (hl : a.length = b.length) (h : ∀ i : Nat, i < a.length → rd a (i : Int) = rd b (i : Int)) : a = b := by
  refine List.ext_getElem hl (fun i h1 h2 => ?_)
  have := h i h1
  rwa [rd_nat h1, rd_nat h2] at this
theorem rd_put {a : List Int} {m k : Nat} {v : Int} (hm : m < a.length) (hk : k < a.length) : rd (a.set m v) (k : Int) = if k = m then v else rd a (k : Int) := by
  rw [rd_nat (by rw [List.length_set]; exact hk), rd_nat hk, List.getElem_set]
  by_cases h : m = k
  · subst h; simp
  · rw [if_neg h, if_neg (fun e => h e.symm)]
theorem laws_toIntS.is (l : List Int) (hl : l.length ≤ 2000000) : Ev (fun k => laws_toIntS.f k l) l := by
  have key : ∀ d i, i + d = l.length → ∀ a : List Int, a.length = l.length → (∀ j : Nat, j < i → rd a (j : Int) = rd l (j : Int)) → Ev (fun k => laws_toIntS.l0 k l a (i : Int)) l := by
    intro d
    induction d with
    | zero =>
      intro i hi a ha h
      refine Ev.succ ?_
      simp only [laws_toIntS.l0]
      exact Ev.neg (by omega) (Ev.of (by rw [set_ext_rd ha (fun j hj => h j (by omega))]))
    | succ d ih =>
      intro i hi a ha h
      refine Ev.succ ?_
      simp only [laws_toIntS.l0]
      refine Ev.pos (by omega) (Ev.pos (by omega) (Ev.pos (by omega) ?_))
      rw [wnext (by omega), Int.toNat_natCast]
      exact ih (i + 1) (by omega) _ (by rw [List.length_set]; exact ha) (fun j hj => by
        rw [rd_put (by omega) (by omega)]
        by_cases e : j = i
        · rw [if_pos e, e]
        · rw [if_neg e]; exact h j (by omega))
  unfold laws_toIntS.f
  refine Ev.pos (by omega) (Ev.pos (by omega) ?_)
  exact key l.length 0 (by omega) _ (by simp) (fun j hj => absurd hj (Nat.not_lt_zero j))
theorem laws_eqIntS.is (a b : List Int) (ha : a.length ≤ maxLen) : Ev (fun k => laws_eqIntS.f k a b) (decide (a = b)) := by
  have hm := maxLen_eq
  unfold laws_eqIntS.f
  by_cases hl : a.length = b.length
  · have key : ∀ d i, i + d = a.length → ∃ c : Bool, (c = true ↔ ∀ j : Nat, i ≤ j → j < a.length → rd a (j : Int) = rd b (j : Int)) ∧ Ev (fun k => laws_eqIntS.l0 k a b (i : Int)) c := by
      intro d
      induction d with
      | zero =>
        intro i hi
        refine ⟨true, ⟨fun _ j h1 h2 => absurd h2 (by omega), fun _ => rfl⟩, Ev.succ ?_⟩
        simp only [laws_eqIntS.l0]
        exact Ev.neg (by omega) (Ev.of rfl)
      | succ d ih =>
        intro i hi
        obtain ⟨c, h1, h2⟩ := ih (i + 1) (by omega)
        by_cases h : rd a (i : Int) = rd b (i : Int)
        · refine ⟨c, ?_, Ev.succ ?_⟩
          · rw [h1]
            constructor
            · intro h3 j h4 h5
              by_cases e : j = i
              · rw [e]; exact h
              · exact h3 j (by omega) h5
            · exact fun h3 j h4 h5 => h3 j (by omega) h5
          · simp only [laws_eqIntS.l0]
            refine Ev.pos (by omega) (Ev.pos (by omega) (Ev.pos (by omega) (Ev.pos h ?_)))
            rw [wnext (by omega)]
            exact h2
        · refine ⟨false, ⟨fun h3 => absurd h3 Bool.false_ne_true, fun h3 => absurd (h3 i (Nat.le_refl _) (by omega)) h⟩, Ev.succ ?_⟩
          simp only [laws_eqIntS.l0]
          exact Ev.pos (by omega) (Ev.pos (by omega) (Ev.pos (by omega) (Ev.neg h (Ev.of rfl))))
    refine Ev.pos (by omega) ?_
    obtain ⟨c, h1, h2⟩ := key a.length 0 (by omega)
    have e : decide (a = b) = c := by
      rw [Bool.eq_iff_iff, decide_eq_true_iff, h1]
      exact ⟨fun h j _ _ => by rw [h], fun h => set_ext_rd hl (fun i hi => h i (Nat.zero_le _) hi)⟩
    rw [e]
    exact h2
  · refine Ev.neg (by omega) (Ev.of ?_)
    rw [decide_eq_false (fun h => hl (by rw [h]))]
theorem laws_toMatroid.is (n : Int) (l : List Int) (hl : l.length ≤ 2000000) : Ev (fun k => laws_toMatroid.f k n l) (n, l) := by
  unfold laws_toMatroid.f
  exact Ev.bind (laws_toIntS.is l hl) (Ev.of rfl)
theorem laws_eqMatroid.is (n m : Int) (a b : List Int) (ha : a.length ≤ maxLen) : Ev (fun k => laws_eqMatroid.f k n a m b) (decide (n = m) && decide (a = b)) := by
  unfold laws_eqMatroid.f
  by_cases h : n = m
  · refine Ev.pos h (Ev.bind (laws_eqIntS.is a b ha) ?_)
    rw [decide_eq_true h, Bool.true_and]
    by_cases h2 : decide (a = b) = true
    · exact Ev.pos h2 (Ev.of (by rw [h2]))
    · exact Ev.neg h2 (Ev.of (by rw [Bool.eq_false_iff.2 h2]))
  · refine Ev.neg h (Ev.of ?_)
    rw [decide_eq_false h, Bool.false_and]
theorem laws_szMatroid.is (n : Int) (l : List Int) (hl : l.length ≤ maxLen) : laws_szMatroid.f n l 1048576 = some (if l.length ≤ 1048576 then 1048576 - (l.length : Int) else -1) := by
  have hm := maxLen_eq
  have e : wrap64 (1048576 - (l.length : Int)) = 1048576 - (l.length : Int) := w64 (by omega) (by omega)
  unfold laws_szMatroid.f laws_szIntS.f
  rw [e]
  by_cases h : l.length ≤ 1048576
  · have h2 : ¬ (1048576 - (l.length : Int) < 0) := by omega
    rw [if_pos h, if_neg h2]
    show (if (1048576 - (l.length : Int)) < 0 then _ else _) = _
    rw [if_neg h2]
  · have h2 : (1048576 - (l.length : Int) < 0) := by omega
    rw [if_neg h, if_pos h2]; rfl
end Go.Proofs.Ytbhckhblonkajaa.Q
namespace Go.Proofs.Ytbhckhblonkajaa.Q
open Go.RowKit Go.Proofs.YtbhckhblonkajaaW.PrintWords Go.Proofs.YtbhckhblonkajaaW.PrintLast Go.Proofs.YtbhckhblonkajaaW.PrintMore
attribute [local go_sem] max2_int min2_int max_two min_two max_three min_three max_four min_four
def impl_IsTernary.f (k : Nat) (a0_0 : Int) (l0_1 : List Int) : Option (Bool) := (impl_FindMatrix.f k a0_0 l0_1 3).bind fun bt426 => (some bt426.2.2.2.2)
set_option maxHeartbeats 8000000 in
set_option maxRecDepth 100000 in
theorem impl_IsTernary.calls (k : Nat) (a0_0 : Int) (A0_1 : Option Addr) (c0_1 : Nat) (l0_1 : List Int) (r : Bool) (w : World) (hr0_1 : Kd.C (Kd.int .i64) w A0_1 l0_1.length l0_1) (hc0_1 : l0_1.length ≤ c0_1) (h : impl_IsTernary.f k a0_0 l0_1 = some r) :
  Calls Try.prog 13 #[.agg #[.int .i64 a0_0, .slice A0_1 l0_1.length c0_1]] w fun e w' => e = .returned (.bool r) ∧ Below w.heap.size w w' := by
 have hu27 := Try.underlying27
 have hu32 := Try.underlying32
 have HR0_1 := Aside0.mk hr0_1
 have HC0_1 := Aside0.mk hc0_1
 clear hr0_1 hc0_1
 have HB := Aside0.mk (Below.refl w.heap.size w)
 have H : ((impl_FindMatrix.f k a0_0 l0_1 3).bind fun bt426 => (some bt426.2.2.2.2)) = some r := h
 clear h
 replace H := Option.bind_eq_some_iff.mp H
 obtain ⟨⟨t426, t427, t428, t429, t432⟩, A20, H⟩ := H
 replace H : (some t432) = some r := H
 have A2 := Aside0.mk A20
 clear A20
 obtain rfl := Option.some.inj H
 go_enter Try.func13, Try.ntmps13
 go_wp2_with (first | ((with_reducible refine gate_dst (N := 1) rfl ?_); refine box_event ?hg (N := 1) ?hd (cs := #[.int .i64 a0_0, .slice A0_1 l0_1.length c0_1]) (t := 27) ?hr ?_; (case hd => rfl); (case hg => rfl); (case hr => first | (go_simp; done) | (go_simp; rfl)); intro gb425 hg w3 hbox hb; have BK425 := Aside0.mk (hbox); have GW425 := Aside0.mk (bZ (w := w) hg); have GE425 := Aside0.mk (bZ (w := w) hg); replace HB := Aside0.mk (below_step pB hb); clear hb hbox hg; obtain ⟨hcz4_0, hcz4_1, hfz4_0, hfz4_1⟩ := bc2 BK425.out) | ((with_reducible refine gate_callee (f := 17) rfl ?_); refine goesL_ (some 7) rfl rfl Try.func17 kr rfl #[.agg #[.int .i64 a0_0, .slice A0_1 l0_1.length c0_1], .int .i64 3] rfl p5 ?_; (with_reducible refine (impl_FindMatrix.calls k a0_0 _ _ l0_1 3 t426 t427 t428 t429 t432 _ ?side1 ?side2 A2.out).mono ?_); (case side1 => exact pC (Kd.C_below HR0_1.out HB.out)); (case side2 => exact HC0_1.out); rintro e w5 ⟨v430, rfl, ho0, hb⟩; refine ⟨_, rfl, ?_⟩; have HO431 := Aside0.mk (Kd.R_lower ho0 (below_size pB)); replace BK425 := Aside0.mk (bB BK425.out hb); replace HB := Aside0.mk (below_step pB hb); (try clear hb); (try clear hb2); (try clear hk); (try clear hi); (try clear ho0)) | ((with_reducible refine gate_dst (N := 3) rfl ?_); refine box_event ?hg (N := 3) ?hd (cs := #[.int .i64 0, .int .i64 0, .int .i64 0, .slice none 0 0]) (t := 32) ?hr ?_; (case hd => rfl); (case hg => rfl); (case hr => first | (go_simp; done) | (go_simp; rfl)); intro gb433 hg w6 hbox hb; replace HO431 := Aside0.mk (Kd.R_below (pR HO431.out) hb); have BK433 := Aside0.mk (hbox); have GW433 := Aside0.mk (bZ (w := w) hg); have GE433 := Aside0.mk (bZ (w := w) hg); replace HB := Aside0.mk (below_step pB hb); have NB425_433 := Aside0.mk (bL BK425.out hg); have NB433_425 := Aside0.mk (bG BK425.out hg); replace BK425 := Aside0.mk (bB BK425.out hb); clear hb hbox hg; have hnb7 := NB433_425.out; have hnc7 := NB425_433.out; obtain ⟨hcz8_0, hcz8_1, hcz8_2, hcz8_3, hfz8_0, hfz8_1, hfz8_2, hfz8_3⟩ := bc4 BK433.out; obtain ⟨Ao9, co9, eo9⟩ := Kd.R_slice HO431.out; subst eo9))
 go_ret
 exact ⟨p8, pB⟩
def spec_IsTernary.f (k : Nat) (a0_0 : Int) (l0_1 : List Int) : Option (Bool) := (spec_FindMatrix.f k a0_0 l0_1 3).bind fun bt417 => (some bt417.2.2.2.2)
set_option maxHeartbeats 8000000 in
set_option maxRecDepth 100000 in
theorem spec_IsTernary.calls (k : Nat) (a0_0 : Int) (A0_1 : Option Addr) (c0_1 : Nat) (l0_1 : List Int) (r : Bool) (w : World) (hr0_1 : Kd.C (Kd.int .i64) w A0_1 l0_1.length l0_1) (hc0_1 : l0_1.length ≤ c0_1) (h : spec_IsTernary.f k a0_0 l0_1 = some r) :
  Calls Try.prog 12 #[.agg #[.int .i64 a0_0, .slice A0_1 l0_1.length c0_1]] w fun e w' => e = .returned (.bool r) ∧ Below w.heap.size w w' := by
 have hu27 := Try.underlying27
 have hu32 := Try.underlying32
 have HR0_1 := Aside0.mk hr0_1
 have HC0_1 := Aside0.mk hc0_1
 clear hr0_1 hc0_1
 have HB := Aside0.mk (Below.refl w.heap.size w)
 have H : ((spec_FindMatrix.f k a0_0 l0_1 3).bind fun bt417 => (some bt417.2.2.2.2)) = some r := h
 clear h
 replace H := Option.bind_eq_some_iff.mp H
 obtain ⟨⟨t417, t418, t419, t420, t423⟩, A20, H⟩ := H
 replace H : (some t423) = some r := H
 have A2 := Aside0.mk A20
 clear A20
 obtain rfl := Option.some.inj H
 go_enter Try.func12, Try.ntmps12
 go_wp2_with (first | ((with_reducible refine gate_dst (N := 1) rfl ?_); refine box_event ?hg (N := 1) ?hd (cs := #[.int .i64 a0_0, .slice A0_1 l0_1.length c0_1]) (t := 27) ?hr ?_; (case hd => rfl); (case hg => rfl); (case hr => first | (go_simp; done) | (go_simp; rfl)); intro gb416 hg w3 hbox hb; have BK416 := Aside0.mk (hbox); have GW416 := Aside0.mk (bZ (w := w) hg); have GE416 := Aside0.mk (bZ (w := w) hg); replace HB := Aside0.mk (below_step pB hb); clear hb hbox hg; obtain ⟨hcz4_0, hcz4_1, hfz4_0, hfz4_1⟩ := bc2 BK416.out) | ((with_reducible refine gate_callee (f := 16) rfl ?_); refine goesL_ (some 7) rfl rfl Try.func16 kr rfl #[.agg #[.int .i64 a0_0, .slice A0_1 l0_1.length c0_1], .int .i64 3] rfl p5 ?_; (with_reducible refine (spec_FindMatrix.calls k a0_0 _ _ l0_1 3 t417 t418 t419 t420 t423 _ ?side1 ?side2 A2.out).mono ?_); (case side1 => exact pC (Kd.C_below HR0_1.out HB.out)); (case side2 => exact HC0_1.out); rintro e w5 ⟨v421, rfl, ho0, hb⟩; refine ⟨_, rfl, ?_⟩; have HO422 := Aside0.mk (Kd.R_lower ho0 (below_size pB)); replace BK416 := Aside0.mk (bB BK416.out hb); replace HB := Aside0.mk (below_step pB hb); (try clear hb); (try clear hb2); (try clear hk); (try clear hi); (try clear ho0)) | ((with_reducible refine gate_dst (N := 3) rfl ?_); refine box_event ?hg (N := 3) ?hd (cs := #[.int .i64 0, .int .i64 0, .int .i64 0, .slice none 0 0]) (t := 32) ?hr ?_; (case hd => rfl); (case hg => rfl); (case hr => first | (go_simp; done) | (go_simp; rfl)); intro gb424 hg w6 hbox hb; replace HO422 := Aside0.mk (Kd.R_below (pR HO422.out) hb); have BK424 := Aside0.mk (hbox); have GW424 := Aside0.mk (bZ (w := w) hg); have GE424 := Aside0.mk (bZ (w := w) hg); replace HB := Aside0.mk (below_step pB hb); have NB416_424 := Aside0.mk (bL BK416.out hg); have NB424_416 := Aside0.mk (bG BK416.out hg); replace BK416 := Aside0.mk (bB BK416.out hb); clear hb hbox hg; have hnb7 := NB424_416.out; have hnc7 := NB416_424.out; obtain ⟨hcz8_0, hcz8_1, hcz8_2, hcz8_3, hfz8_0, hfz8_1, hfz8_2, hfz8_3⟩ := bc4 BK424.out; obtain ⟨Ao9, co9, eo9⟩ := Kd.R_slice HO422.out; subst eo9))
 go_ret
 exact ⟨p8, pB⟩
end Go.Proofs.Ytbhckhblonkajaa.Q
