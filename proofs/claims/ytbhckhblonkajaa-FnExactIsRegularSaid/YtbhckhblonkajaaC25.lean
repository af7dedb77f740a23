/- Part of a proof: contracts and lemmas that the row's text uses; joined by a program. -/
import Derived.Test.YtbhckhblonkajaaC04
import Derived.Test.YtbhckhblonkajaaC07
import Derived.Test.YtbhckhblonkajaaC11
import Derived.Test.YtbhckhblonkajaaC17
import Derived.Test.YtbhckhblonkajaaC19
import Derived.Test.YtbhckhblonkajaaC24
set_option linter.unusedVariables false
set_option linter.unusedSimpArgs false
namespace Go.Proofs.Ytbhckhblonkajaa.Q
open Go.RowKit Go.Proofs.YtbhckhblonkajaaW.PrintWords Go.Proofs.YtbhckhblonkajaaW.PrintLast Go.Proofs.YtbhckhblonkajaaW.PrintMore
def Asc (l : List Int) : Prop := l.Pairwise (· < ·)
theorem sortSets_asc {l : List Int} (h : Asc l) : sortSets l = l := by
  have h1 : sortI l = l := List.mergeSort_of_pairwise (h.imp (fun {a b} hab => by simp; omega))
  unfold sortSets
  rw [h1]
  refine Lib.compact_all l (fun j hj => ?_)
  unfold Lib.keeps
  rw [decide_eq_true_iff]
  by_cases h0 : j = 0
  · exact .inl h0
  · right
    have h2 := List.pairwise_iff_getElem.1 h (j - 1) j (by omega) hj (by omega)
    have e1 : l.toArray[j]! = l[j] := by simp [hj]
    have e2 : l.toArray[j - 1]! = l[j - 1] := by
      have : j - 1 < l.length := by omega
      simp [this]
    rw [e1, e2]
    have h3 : l[j - 1]'(by omega) < l[j] := h2
    omega
theorem impl_areSets.is (l : List Int) (hl : l.length ≤ maxLen) : Ev (fun k => impl_areSets.f k l) (l.all (fun s => decide (0 ≤ s ∧ s < 256))) := by
  have hm := maxLen_eq
  have key : ∀ d i, i + d = l.length → Ev (fun k => impl_areSets.l0 k l (l.length : Int) (i : Int)) ((l.drop i).all (fun s => decide (0 ≤ s ∧ s < 256))) := by
    intro d
    induction d with
    | zero =>
      intro i hi
      refine Ev.succ ?_
      simp only [impl_areSets.l0]
      refine Ev.neg (by omega) (Ev.of ?_)
      rw [List.drop_of_length_le (by omega)]; rfl
    | succ d ih =>
      intro i hi
      have hil : i < l.length := by omega
      have e : (l.drop i).all (fun s => decide (0 ≤ s ∧ s < 256)) = (decide (0 ≤ rd l i ∧ rd l i < 256) && (l.drop (i + 1)).all (fun s => decide (0 ≤ s ∧ s < 256))) := by
        rw [List.drop_eq_getElem_cons hil, List.all_cons, rd_nat hil]
      rw [e]
      refine Ev.succ ?_
      simp only [impl_areSets.l0]
      refine Ev.pos (by omega) (Ev.pos (by omega) (Ev.pos (by omega) (Ev.bind_some (impl_isAny.eq_ _) ?_)))
      by_cases h : 0 ≤ rd l i ∧ rd l i < 256
      · rw [show decide (0 ≤ rd l i ∧ rd l i < 256) = true from decide_eq_true h]
        refine Ev.pos rfl ?_
        rw [wnext (by omega), Bool.true_and]; exact ih (i + 1) (by omega)
      · rw [show decide (0 ≤ rd l i ∧ rd l i < 256) = false from decide_eq_false h]
        exact Ev.neg (by decide) (Ev.of rfl)
  have := key l.length 0 (by omega)
  rwa [List.drop_zero] at this
def maxOf (l m : List Int) : List Int := m.filter (fun s => !(l.any fun t => t != s && subB s t))
theorem impl_MaximalSets.is (l : List Int) (hl : l.length < 1000000) (h : ∀ x ∈ l, 0 ≤ x ∧ x < 256) : Ev (fun k => impl_MaximalSets.f k l) (maxOf l (sortSets l)) := by
  have hm := maxLen_eq
  have hlen : (sortSets l).length ≤ l.length := by
    unfold sortSets
    have := compact_le (sortI l)
    rwa [sortI_length] at this
  have key : ∀ d i, i + d = (sortSets l).length → ∀ acc : List Int, acc.length ≤ i → Ev (fun k => impl_MaximalSets.l0 k l acc (sortSets l) ((sortSets l).length : Int) (i : Int)) (acc ++ maxOf l ((sortSets l).drop i)) := by
    intro d
    induction d with
    | zero =>
      intro i hi acc ha
      refine Ev.succ ?_
      simp only [impl_MaximalSets.l0]
      refine Ev.neg (by omega) (Ev.of ?_)
      rw [List.drop_of_length_le (by omega)]; simp [maxOf]
    | succ d ih =>
      intro i hi acc ha
      have hil : i < (sortSets l).length := by omega
      have e : maxOf l ((sortSets l).drop i) = (if (l.any fun t => t != rd (sortSets l) i && subB (rd (sortSets l) i) t) = true then [] else [rd (sortSets l) i]) ++ maxOf l ((sortSets l).drop (i + 1)) := by
        unfold maxOf
        rw [List.drop_eq_getElem_cons hil, List.filter_cons, rd_nat hil]
        cases (l.any fun t => t != (sortSets l)[i] && subB (sortSets l)[i] t) <;> simp
      refine Ev.succ ?_
      simp only [impl_MaximalSets.l0]
      refine Ev.pos (by omega) (Ev.pos (by omega) (Ev.pos (by omega) (Ev.bind_some rfl ?_)))
      rw [wnext (by omega)]
      by_cases h : (l.any fun t => t != rd (sortSets l) i && subB (rd (sortSets l) i) t) = true
      · refine Ev.pos h ?_
        rw [e, if_pos h, List.nil_append]
        exact ih (i + 1) (by omega) acc (by omega)
      · refine Ev.neg h (Ev.pos (by omega) ?_)
        rw [e, if_neg h, ← List.append_assoc]
        exact ih (i + 1) (by omega) _ (by simp; omega)
  unfold impl_MaximalSets.f
  refine Ev.bind (impl_areSets.is l (by omega)) ?_
  refine Ev.pos (List.all_eq_true.2 (fun x hx => decide_eq_true (h x hx))) ?_
  refine Ev.bind_some (x := impl_SortSets.f l) (by unfold impl_SortSets.f; rw [if_pos (by omega)]) ?_
  have := key (sortSets l).length 0 (by omega) [] (by simp)
  rwa [List.drop_zero] at this
theorem subB_is {a b : Nat} (ha : a < 256) (hb : b < 256) : subB (a : Int) (b : Int) = true ↔ ∀ j, a.testBit j = true → b.testBit j = true := by
  have e : impl_IsSubset.f (a : Int) (b : Int) = some (((dif a b : Nat) : Int) == 0) := by
    unfold impl_IsSubset.f
    rw [impl_isAny.eq_, impl_isAny.eq_, bits_andNot ha hb, show decide (0 ≤ (a : Int) ∧ (a : Int) < 256) = true from decide_eq_true (by omega), show decide (0 ≤ (b : Int) ∧ (b : Int) < 256) = true from decide_eq_true (by omega)]
    rfl
  rw [subB_some] at e
  rw [Option.some.inj e]
  simp only [beq_iff_eq]
  constructor
  · intro h j hj
    have h0 : dif a b = 0 := by omega
    by_cases h8 : j < 8
    · have := dif_bit (a := a) (b := b) h8
      rw [h0, Nat.zero_testBit, hj] at this
      simpa using this.symm
    · rw [testBit_hi ha (by omega)] at hj
      exact absurd hj (by decide)
  · intro h
    have : dif a b = 0 := by
      refine Nat.eq_of_testBit_eq (fun j => ?_)
      rw [Nat.zero_testBit]
      by_cases h8 : j < 8
      · rw [dif_bit h8]
        cases ha2 : a.testBit j
        · rfl
        · rw [h j ha2]; rfl
      · exact testBit_hi (dif_lt ha) (by omega)
    rw [this]; rfl
def setsB (B : Nat → Bool) (n : Nat) : List Int := ((List.range (2 ^ n)).filter B).map (fun (k : Nat) => (k : Int))
theorem mem_setsB {B : Nat → Bool} {n : Nat} {x : Int} : x ∈ setsB B n ↔ ∃ s : Nat, s < 2 ^ n ∧ B s = true ∧ x = (s : Int) := by
  unfold setsB
  rw [List.mem_map]
  constructor
  · rintro ⟨s, h, rfl⟩
    rw [List.mem_filter, List.mem_range] at h
    exact ⟨s, h.1, h.2, rfl⟩
  · rintro ⟨s, h1, h2, rfl⟩
    exact ⟨s, by rw [List.mem_filter, List.mem_range]; exact ⟨h1, h2⟩, rfl⟩
theorem setsB_asc (B : Nat → Bool) (n : Nat) : Asc (setsB B n) := by
  unfold setsB Asc
  rw [List.pairwise_map]
  exact (List.Pairwise.filter _ List.pairwise_lt_range).imp (fun {a b} h => by omega)
theorem setsB_length {B : Nat → Bool} {n : Nat} (hn : n ≤ 8) : (setsB B n).length ≤ 256 := by
  have hp : (2 : Nat) ^ n ≤ 256 := Nat.pow_le_pow_right (n := 2) (by decide) hn
  unfold setsB
  rw [List.length_map]
  have := List.length_filter_le B (List.range (2 ^ n))
  rw [List.length_range] at this
  omega
theorem setsB_range {B : Nat → Bool} {n : Nat} (hn : n ≤ 8) : ∀ x ∈ setsB B n, 0 ≤ x ∧ x < 256 := by
  have hp : (2 : Nat) ^ n ≤ 256 := Nat.pow_le_pow_right (n := 2) (by decide) hn
  intro x hx
  obtain ⟨s, h1, _, rfl⟩ := mem_setsB.1 hx
  omega
theorem setsB_congr {B C : Nat → Bool} {n : Nat} (h : ∀ s, s < 2 ^ n → B s = C s) : setsB B n = setsB C n := by
  unfold setsB
  rw [List.filter_congr (fun s hs => h s (List.mem_range.1 hs))]
theorem filter_setsB {B : Nat → Bool} {n : Nat} (p : Int → Bool) : (setsB B n).filter p = setsB (fun s => B s && p (s : Int)) n := by
  unfold setsB
  rw [List.filter_map, List.filter_filter]
  congr 1
  exact List.filter_congr (fun s _ => by simp [Bool.and_comm])
end Go.Proofs.Ytbhckhblonkajaa.Q
namespace Go.Proofs.Ytbhckhblonkajaa.Q
open Go.RowKit Go.Proofs.YtbhckhblonkajaaW.PrintWords Go.Proofs.YtbhckhblonkajaaW.PrintLast Go.Proofs.YtbhckhblonkajaaW.PrintMore
open Go.Proofs.Lin
def swp (a e f : Nat) : Nat := (a ^^^ 2 ^ e) ||| 2 ^ f
theorem xch_swp {a e f : Nat} (ha : a < 256) (he : e < 8) (hf : f < 8) (h1 : a.testBit e = true) (h2 : a.testBit f = false) : xch (a : Int) (e : Int) (f : Int) = (swp a e f : Int) := by
  have h : ∀ (a : Fin 256) (e f : Fin 8), a.val.testBit e.val = true → a.val.testBit f.val = false → xch (a.val : Int) (e.val : Int) (f.val : Int) = (swp a.val e.val f.val : Int) := by decide +kernel
  exact h ⟨a, ha⟩ ⟨e, he⟩ ⟨f, hf⟩ h1 h2
theorem swp_bit {a e f j : Nat} (h1 : a.testBit e = true) : (swp a e f).testBit j = ((a.testBit j && (j != e)) || (j == f)) := by
  unfold swp
  rw [Nat.testBit_or, Nat.testBit_xor, Nat.testBit_two_pow, Nat.testBit_two_pow]
  by_cases e1 : e = j
  · subst e1
    by_cases e2 : f = e
    · subst e2; simp
    · have e3 : ¬ e = f := fun h => e2 h.symm
      simp [h1, e2, e3]
  · have e4 : ¬ j = e := fun h => e1 h.symm
    by_cases e2 : f = j
    · subst e2; simp
    · have e3 : ¬ j = f := fun h => e2 h.symm
      have e5 : (j != e) = true := by simp [e4]
      have e6 : (j == f) = false := by simp [e3]
      simp [e1, e2, e5, e6]
theorem asc_rd {l : List Int} : Asc l ↔ ∀ i : Nat, i < l.length → i ≠ 0 → rd l ((i : Int) - 1) < rd l i := by
  constructor
  · intro h i hi h0
    have h2 := List.pairwise_iff_getElem.1 h (i - 1) i (by omega) hi (by omega)
    rw [show (i : Int) - 1 = ((i - 1 : Nat) : Int) by omega, rd_nat (by omega), rd_nat hi]
    exact h2
  · intro h
    have key : ∀ d i, i + d < l.length → 0 < d → rd l (i : Int) < rd l ((i + d : Nat) : Int) := by
      intro d
      induction d with
      | zero => intro i hi h0; omega
      | succ d ih =>
        intro i hi h0
        have h1 := h (i + d + 1) (by omega) (by omega)
        rw [show ((i + d + 1 : Nat) : Int) - 1 = ((i + d : Nat) : Int) by omega] at h1
        by_cases e : d = 0
        · subst e; exact h1
        · have := ih i (by omega) (by omega)
          exact Int.lt_trans this h1
    refine List.pairwise_iff_getElem.2 (fun i j hi hj hij => ?_)
    have := key (j - i) i (by omega) (by omega)
    rwa [show i + (j - i) = j by omega, rd_nat hi, rd_nat hj] at this
theorem hasI_mem {l : List Int} {x : Int} : hasI l x = true ↔ x ∈ l := by simp [hasI]
theorem fam_asc {n : Nat} {l : List Int} : fam (n : Int) l = true ↔ n ≤ 8 ∧ Asc l ∧ ∀ x ∈ l, ∃ s : Nat, s < 2 ^ n ∧ x = (s : Int) := by
  rw [fam_iff, asc_rd]
  constructor
  · rintro ⟨h1, h2⟩
    refine ⟨by omega, fun i hi h0 => (h2 i hi).2 h0, fun x hx => ?_⟩
    obtain ⟨i, hi, rfl⟩ := List.mem_iff_getElem.1 hx
    have := (h2 i hi).1
    rw [rd_nat hi, full_nat] at this
    exact ⟨(l[i]).toNat, by omega, by omega⟩
  · rintro ⟨h1, h2, h3⟩
    refine ⟨by omega, fun i hi => ⟨?_, fun h0 => h2 i hi h0⟩⟩
    obtain ⟨s, hs, he⟩ := h3 _ (rd_mem hi)
    rw [he, full_nat]
    omega
theorem bad_iff {n : Nat} (hn : n ≤ 8) {l : List Int} (hl : ∀ x ∈ l, ∃ s : Nat, s < 2 ^ n ∧ x = (s : Int)) :
    bad n l = false ↔ ∀ a b : Nat, (a : Int) ∈ l → (b : Int) ∈ l → ∀ e, a.testBit e = true → b.testBit e = false → ∃ f, b.testBit f = true ∧ a.testBit f = false ∧ (swp a e f : Int) ∈ l := by
  have hp : (2 : Nat) ^ n ≤ 256 := Nat.pow_le_pow_right (n := 2) (by decide) hn
  have lt : ∀ a : Nat, (a : Int) ∈ l → a < 2 ^ n := fun a ha => by
    obtain ⟨s, hs, he⟩ := hl _ ha
    omega
  have ex : ∀ a b e : Nat, a < 2 ^ n → b < 2 ^ n → a.testBit e = true → (exB n l (a : Int) (b : Int) (e : Int) = true ↔ ∃ f, b.testBit f = true ∧ a.testBit f = false ∧ (swp a e f : Int) ∈ l) := by
    intro a b e ha hb he
    have he8 : e < n := bit_lt ha he
    unfold exB
    rw [anyN_iff]
    constructor
    · rintro ⟨f, _, hf, hh⟩
      rw [has_nat, has_nat] at hh
      simp only [Bool.and_eq_true, Bool.not_eq_true'] at hh
      refine ⟨f, hh.1.1, hh.1.2, ?_⟩
      rw [← xch_swp (by omega) (by omega) (by omega) he hh.1.2]
      exact hasI_mem.1 hh.2
    · rintro ⟨f, h1, h2, h3⟩
      have hf : f < n := bit_lt hb h1
      refine ⟨f, by omega, by omega, ?_⟩
      rw [has_nat, has_nat]
      simp only [Bool.and_eq_true, Bool.not_eq_true']
      refine ⟨⟨h1, h2⟩, ?_⟩
      rw [xch_swp (by omega) (by omega) (by omega) he h2]
      exact hasI_mem.2 h3
  constructor
  · intro h a b ha hb e h1 h2
    apply Classical.byContradiction
    intro hc
    have hb1 : bad n l = true := by
      obtain ⟨i, hi, hie⟩ := List.mem_iff_getElem.1 ha
      obtain ⟨j, hj, hje⟩ := List.mem_iff_getElem.1 hb
      unfold bad
      refine anyN_iff.2 ⟨i, by omega, by omega, ?_⟩
      unfold badA
      refine anyN_iff.2 ⟨j, by omega, by omega, ?_⟩
      rw [rd_nat hi, rd_nat hj, hie, hje]
      unfold badB
      refine anyN_iff.2 ⟨e, by omega, by have := bit_lt (lt a ha) h1; omega, ?_⟩
      unfold badE
      rw [has_nat, has_nat, h1, h2]
      have : exB n l (a : Int) (b : Int) (e : Int) = false := by
        rw [Bool.eq_false_iff]
        exact fun h3 => hc ((ex a b e (lt a ha) (lt b hb) h1).1 h3)
      rw [this]; rfl
    rw [h] at hb1
    exact Bool.false_ne_true hb1
  · intro h
    rw [Bool.eq_false_iff]
    intro hb
    unfold bad at hb
    obtain ⟨i, _, hi, hb⟩ := anyN_iff.1 hb
    unfold badA at hb
    obtain ⟨j, _, hj, hb⟩ := anyN_iff.1 hb
    unfold badB at hb
    obtain ⟨e, _, he, hb⟩ := anyN_iff.1 hb
    obtain ⟨a, ha, ea⟩ := hl _ (rd_mem (l := l) (i := i) (by omega))
    obtain ⟨b, hb2, eb⟩ := hl _ (rd_mem (l := l) (i := j) (by omega))
    have ma : (a : Int) ∈ l := by rw [← ea]; exact rd_mem (by omega)
    have mb : (b : Int) ∈ l := by rw [← eb]; exact rd_mem (by omega)
    rw [ea, eb] at hb
    unfold badE at hb
    rw [has_nat, has_nat] at hb
    simp only [Bool.and_eq_true, Bool.not_eq_true'] at hb
    have := (ex a b e ha hb2 hb.1.1).2 (h a b ma mb e hb.1.1 hb.1.2)
    rw [hb.2] at this
    exact Bool.false_ne_true this
structure Mat (n : Nat) (l : List Int) : Prop where
  n8 : n ≤ 8
  asc : Asc l
  sets : ∀ x ∈ l, ∃ s : Nat, s < 2 ^ n ∧ x = (s : Int)
  some_ : l ≠ []
  xchg : ∀ a b : Nat, (a : Int) ∈ l → (b : Int) ∈ l → ∀ e, a.testBit e = true → b.testBit e = false → ∃ f, b.testBit f = true ∧ a.testBit f = false ∧ (swp a e f : Int) ∈ l
theorem matr_iff {n : Nat} {l : List Int} : matr (n : Int) l = true ↔ Mat n l := by
  unfold matr
  rw [show ((n : Int)).toNat = n by omega]
  simp only [Bool.and_eq_true, Bool.not_eq_true', decide_eq_true_eq]
  rw [fam_asc]
  constructor
  · rintro ⟨⟨⟨h1, h2, h3⟩, h4⟩, h5⟩
    exact ⟨h1, h2, h3, fun e => by subst e; simp at h4, (bad_iff h1 h3).1 h5⟩
  · rintro ⟨h1, h2, h3, h4, h5⟩
    exact ⟨⟨⟨h1, h2, h3⟩, List.length_pos_iff.2 h4⟩, (bad_iff h1 h3).2 h5⟩
theorem matr_nat {n : Int} {l : List Int} (h : matr n l = true) : ∃ m : Nat, n = (m : Int) ∧ Mat m l := by
  have h1 : fam n l = true := by
    unfold matr at h
    simp only [Bool.and_eq_true] at h
    exact h.1.1
  have h2 := (fam_iff.1 h1).1
  refine ⟨n.toNat, by omega, ?_⟩
  rw [← matr_iff, show ((n.toNat : Nat) : Int) = n by omega]
  exact h
theorem Ind.congr {p : Int} {M : Nat → Nat → Int} {r n : Nat} {S T : Nat → Bool} (h : ∀ j, j < n → S j = T j) (hI : Ind p M r n S) : Ind p M r n T := by
  intro c hc j hj hT
  refine hI c (fun i hi => ?_) j hj (by rw [h j hj]; exact hT)
  have := hc i hi
  rwa [show sumOn S n (fun j => M i j * c j) = sumOn T n (fun j => M i j * c j) from sumOn_sub (fun j hj => by rw [h j hj])]
theorem Ind.sub {p : Int} {M : Nat → Nat → Int} {r n : Nat} {S T : Nat → Bool} (h : ∀ j, j < n → T j = true → S j = true) (hI : Ind p M r n S) : Ind p M r n T := by
  intro c hc j hj hT
  have := hI (fun j => if T j then c j else 0) (fun i hi => by
    have h1 := hc i hi
    rwa [show sumOn S n (fun j => M i j * (if T j then c j else 0)) = sumOn T n (fun j => M i j * c j) from sumOn_sub (fun j hj => by
      by_cases hT : T j = true
      · simp [hT, h j hj hT]
      · simp [hT])]) j hj (h j hj hT)
  simpa [hT] using this
theorem card_sub {s t n : Nat} (hn : n ≤ 8) (hs : s < 2 ^ n) (ht : t < 2 ^ n) (h : ∀ j, s.testBit j = true → t.testBit j = true) (hne : s ≠ t) : card s < card t := by
  have h1 : ∃ j, j < n ∧ t.testBit j = true ∧ s.testBit j = false := by
    apply Classical.byContradiction
    intro hc
    refine hne (set_ext hs ht (fun j hj => ?_))
    cases hsj : s.testBit j
    · cases htj : t.testBit j
      · rfl
      · exact absurd ⟨j, hj, htj, hsj⟩ hc
    · rw [h j hsj]
  obtain ⟨j, hj, h2, h3⟩ := h1
  rw [card_cnt hn hs, card_cnt hn ht, cnt_drop (S := bitsP t) hj h2]
  refine Nat.lt_succ_of_le (cnt_le (fun i hi hsi => ?_))
  have hne2 : i ≠ j := fun e => by subst e; rw [show bitsP s i = s.testBit i from rfl, h3] at hsi; exact Bool.false_ne_true hsi
  simp [drop1, hne2, bitsP, h i hsi]
theorem or_bit {s q j : Nat} : (s ||| 2 ^ q).testBit j = (s.testBit j || (j == q)) := by
  rw [Nat.testBit_or, Nat.testBit_two_pow]
  by_cases e : q = j
  · subst e; simp
  · have e2 : ¬ j = q := fun h => e h.symm
    simp [e, e2]
theorem or_lt_pow {s q n : Nat} (hs : s < 2 ^ n) (hq : q < n) : s ||| 2 ^ q < 2 ^ n := Nat.or_lt_two_pow hs (Nat.pow_lt_pow_right (by decide) hq)
section
variable {p : Int} {M E : Nat → Nat → Int} {r n : Nat} {P : Nat → Bool} {B : Nat → Bool}
theorem mm.le (hn : n ≤ 8) (hpr : Prime p) (hE : Ech p E r n (fun _ => true) P) (hS : Sol p r n M E) (hB : ∀ s, s < 2 ^ n → (B s = true ↔ Ind p M r n (bitsP s))) {s : Nat} (hs : s < 2 ^ n) (h : B s = true) : card s ≤ cnt P n := by
  rw [card_cnt hn hs]
  exact hE.le hpr (fun _ _ _ => rfl) ((hS.ind _).1 ((hB s hs).1 h))
theorem mm.aug (hn : n ≤ 8) (hpr : Prime p) (hB : ∀ s, s < 2 ^ n → (B s = true ↔ Ind p M r n (bitsP s))) {s t : Nat} (hs : s < 2 ^ n) (ht : t < 2 ^ n) (h : B s = true) (h2 : B t = true) (hlt : card s < card t) :
    ∃ q, q < n ∧ t.testBit q = true ∧ s.testBit q = false ∧ B (s ||| 2 ^ q) = true := by
  apply Classical.byContradiction
  intro hc
  rw [card_cnt hn hs, card_cnt hn ht] at hlt
  have := ((hB s hs).1 h).max hpr ((hB t ht).1 h2) (fun q hq h3 h4 h5 => hc ⟨q, hq, h3, h4, (hB _ (or_lt_pow hs hq)).2 (Ind.congr (fun j _ => by rw [show bitsP (s ||| 2 ^ q) j = (s ||| 2 ^ q).testBit j from rfl, or_bit]; rfl) h5)⟩)
  omega
theorem mm.full (hn : n ≤ 8) (hpr : Prime p) (hE : Ech p E r n (fun _ => true) P) (hS : Sol p r n M E) (hB : ∀ s, s < 2 ^ n → (B s = true ↔ Ind p M r n (bitsP s))) : ∃ t, t < 2 ^ n ∧ B t = true ∧ card t = cnt P n := by
  refine ⟨bitsOf P n, bitsOf_lt P n, (hB _ (bitsOf_lt P n)).2 ((hS.ind _).2 (Ind.congr (fun j hj => (bitsOf_bit hj).symm) (hE.pivots hpr))), ?_⟩
  rw [card_cnt hn (bitsOf_lt P n)]
  exact cnt_congr (fun j hj => bitsOf_bit hj)
theorem mm.max (hn : n ≤ 8) (hpr : Prime p) (hE : Ech p E r n (fun _ => true) P) (hS : Sol p r n M E) (hB : ∀ s, s < 2 ^ n → (B s = true ↔ Ind p M r n (bitsP s))) : maxOf (setsB B n) (setsB B n) = setsB (fun s => B s && card s == cnt P n) n := by
  have hp : (2 : Nat) ^ n ≤ 256 := Nat.pow_le_pow_right (n := 2) (by decide) hn
  unfold maxOf
  rw [filter_setsB]
  refine setsB_congr (fun s hs => ?_)
  cases h : B s
  · rfl
  · rw [Bool.true_and, Bool.true_and]
    have hle := mm.le hn hpr hE hS hB hs h
    by_cases hc : card s = cnt P n
    · rw [show (card s == cnt P n) = true by simp [hc], Bool.not_eq_true']
      rw [Bool.eq_false_iff]
      intro ha
      obtain ⟨x, hx, hh⟩ := List.any_eq_true.1 ha
      obtain ⟨t, ht, hBt, rfl⟩ := mem_setsB.1 hx
      rw [Bool.and_eq_true, subB_is (by omega) (by omega)] at hh
      have hlt := card_sub hn hs ht hh.2 (fun e => by rw [e] at hh; simp at hh)
      have := mm.le hn hpr hE hS hB ht hBt
      omega
    · rw [show (card s == cnt P n) = false by simp [hc], Bool.not_eq_false']
      obtain ⟨t0, ht0, hBt0, hct0⟩ := mm.full hn hpr hE hS hB
      obtain ⟨q, hq, h1, h2, h3⟩ := mm.aug hn hpr hB hs ht0 h hBt0 (by omega)
      refine List.any_eq_true.2 ⟨((s ||| 2 ^ q : Nat) : Int), mem_setsB.2 ⟨_, or_lt_pow hs hq, h3, rfl⟩, ?_⟩
      have hlt2 := or_lt_pow hs hq
      rw [Bool.and_eq_true, subB_is (by omega) (by omega)]
      refine ⟨?_, fun j hj => by rw [or_bit, hj]; rfl⟩
      have hne : s ||| 2 ^ q ≠ s := fun e => by
        have h4 : (s ||| 2 ^ q).testBit q = true := by rw [or_bit]; simp
        rw [e, h2] at h4
        exact Bool.false_ne_true h4
      simp only [bne_iff_ne, ne_eq]
      omega
theorem mm.mat (hn : n ≤ 8) (hpr : Prime p) (hE : Ech p E r n (fun _ => true) P) (hS : Sol p r n M E) (hB : ∀ s, s < 2 ^ n → (B s = true ↔ Ind p M r n (bitsP s))) : Mat n (setsB (fun s => B s && card s == cnt P n) n) := by
  refine ⟨hn, setsB_asc _ _, fun x hx => ?_, ?_, ?_⟩
  · obtain ⟨s, hs, _, rfl⟩ := mem_setsB.1 hx
    exact ⟨s, hs, rfl⟩
  · obtain ⟨t0, ht0, hBt0, hct0⟩ := mm.full hn hpr hE hS hB
    intro e
    have : (t0 : Int) ∈ setsB (fun s => B s && card s == cnt P n) n := mem_setsB.2 ⟨t0, ht0, by simp [hBt0, hct0], rfl⟩
    rw [e] at this
    simp at this
  · intro a b ha hb e h1 h2
    obtain ⟨a', ha', hBa, ea⟩ := mem_setsB.1 ha
    obtain ⟨b', hb', hBb, eb⟩ := mem_setsB.1 hb
    obtain rfl : a = a' := by omega
    obtain rfl : b = b' := by omega
    simp only [Bool.and_eq_true, beq_iff_eq] at hBa hBb
    have hen : e < n := bit_lt ha' h1
    have hd : a ^^^ 2 ^ e < 2 ^ n := Nat.xor_lt_two_pow ha' (Nat.pow_lt_pow_right (by decide) hen)
    have db : ∀ j, (a ^^^ 2 ^ e).testBit j = (a.testBit j && (j != e)) := fun j => by
      rw [Nat.testBit_xor, Nat.testBit_two_pow]
      by_cases e1 : e = j
      · subst e1; simp [h1]
      · have e4 : ¬ j = e := fun h => e1 h.symm
        simp [e1, e4]
    have hBd : B (a ^^^ 2 ^ e) = true := (hB _ hd).2 (Ind.sub (fun j hj hT => by
      rw [show bitsP (a ^^^ 2 ^ e) j = (a ^^^ 2 ^ e).testBit j from rfl, db, Bool.and_eq_true] at hT
      exact hT.1) ((hB a ha').1 hBa.1))
    have hcd : card a = card (a ^^^ 2 ^ e) + 1 := by
      rw [card_cnt hn ha', card_cnt hn hd, cnt_drop (S := bitsP a) hen h1]
      congr 1
      exact cnt_congr (fun j _ => by simp [drop1, bitsP, db])
    obtain ⟨q, hq, h3, h4, h5⟩ := mm.aug hn hpr hB hd hb' hBd hBb.1 (by omega)
    have hqe : q ≠ e := fun e1 => by subst e1; rw [h2] at h3; exact Bool.false_ne_true h3
    rw [db] at h4
    have h6 : a.testBit q = false := by simpa [hqe] using h4
    refine ⟨q, h3, h6, mem_setsB.2 ⟨swp a e q, or_lt_pow hd hq, ?_, rfl⟩⟩
    simp only [Bool.and_eq_true, beq_iff_eq]
    refine ⟨h5, ?_⟩
    have hsw : swp a e q < 2 ^ n := or_lt_pow hd hq
    have hcs : card (swp a e q) = card (a ^^^ 2 ^ e) + 1 := by
      rw [card_cnt hn hsw, card_cnt hn hd, cnt_drop (S := bitsP (swp a e q)) hq (by rw [show bitsP (swp a e q) q = (swp a e q).testBit q from rfl, swp_bit h1]; simp)]
      congr 1
      exact cnt_congr (fun j _ => by
        rw [show drop1 (bitsP (swp a e q)) q j = ((swp a e q).testBit j && (j != q)) from rfl, swp_bit h1, show bitsP (a ^^^ 2 ^ e) j = (a ^^^ 2 ^ e).testBit j from rfl, db]
        by_cases e1 : j = q
        · subst e1; simp [h6]
        · have e5 : (j != q) = true := by simp [e1]
          have e6 : (j == q) = false := by simp [e1]
          rw [e5, e6]; simp)
    omega
end
theorem Ev.all {α : Type} {f : Nat → Nat → Option α} {g : Nat → α} : ∀ m, (∀ s, s < m → Ev (f s) (g s)) → ∃ K, ∀ s, s < m → ∀ k, K ≤ k → f s k = some (g s) := by
  intro m
  induction m with
  | zero => exact fun _ => ⟨0, fun s hs => absurd hs (Nat.not_lt_zero s)⟩
  | succ m ih =>
    intro h
    obtain ⟨K, hK⟩ := ih (fun s hs => h s (by omega))
    obtain ⟨K2, hK2⟩ := h m (by omega)
    refine ⟨max K K2, fun s hs k hk => ?_⟩
    by_cases e : s = m
    · subst e; exact hK2 k (by omega)
    · exact hK s (by omega) k (by omega)
theorem isMat_inr {p r n : Int} {c : List Int} (h : isMat p r n c = true) : isFld p = true ∧ ∃ r' n' : Nat, r = (r' : Int) ∧ n = (n' : Int) ∧ r' ≤ 8 ∧ n' ≤ 8 ∧ Inr p r' n' c := by
  unfold isMat at h
  simp only [Bool.and_eq_true, decide_eq_true_eq, isSize_iff] at h
  obtain ⟨h1, h2, h3, h4, h5⟩ := h
  have e : c.length = r.toNat * n.toNat := by
    have e2 : ((r.toNat * n.toNat : Nat) : Int) = r * n := by
      rw [Int.natCast_mul, Int.toNat_of_nonneg h2.1, Int.toNat_of_nonneg h3.1]
    omega
  refine ⟨h1, r.toNat, n.toNat, by omega, by omega, by omega, by omega, e, fun x y hx hy => ?_⟩
  have h6 := allN_iff.1 h5 (x * n.toNat + y) (Nat.zero_le _) (by rw [e, Nat.zero_add]; exact idx_lt hx hy)
  unfold cellsOk at h6
  simp only [Bool.and_eq_true, decide_eq_true_eq] at h6
  unfold mx
  omega
theorem fullI_nat {n : Nat} (hn : n ≤ 8) : (fullI (n : Int) + 1).toNat = 2 ^ n := by
  unfold fullI
  rw [if_pos (by omega), show ((n : Int)).toNat = n by omega, Int.sub_add_cancel]
  rw [show (2 : Int) ^ n = ((2 ^ n : Nat) : Int) by simp]; exact Int.toNat_natCast _
theorem setsList_nat {n : Nat} (hn : n ≤ 8) (p : Int → Bool) : setsList p (n : Int) = setsB (fun s => p (s : Int)) n := by
  unfold setsList firstSets setsB
  rw [fullI_nat hn, List.filter_map]; rfl
theorem Ech.cong {p : Int} {M : Nat → Nat → Int} {r n : Nat} {S T P : Nat → Bool} (h : ∀ j, j < n → S j = T j) (hE : Ech p M r n S P) : Ech p M r n T P :=
  ⟨fun j hj hp => by rw [← h j hj]; exact hE.sub j hj hp, hE.piv, fun j hj hT => hE.low j hj (by rw [h j hj]; exact hT), hE.fit⟩
theorem setsB_take (C : Nat → Bool) (m : Nat) : ((List.range (m + 1)).filter C).map (fun (k : Nat) => (k : Int)) = ((List.range m).filter C).map (fun (k : Nat) => (k : Int)) ++ (if C m then [(m : Int)] else []) := by
  rw [List.range_succ, List.filter_append, List.map_append]
  congr 1
  cases h : C m <;> simp [h]
theorem FromMatrix.is (p r n : Int) (c : List Int) (hl : c.length ≤ maxLen) : ∃ v : Int × List Int, v.2.length ≤ 256 ∧ Ev (fun k => impl_FromMatrix.f k p r n c) v ∧ Ev (fun k => spec_FromMatrix.f k p r n c) v := by
  by_cases hM : isMat p r n c = true
  · obtain ⟨hp0, r, n, rfl, rfl, hr, hn, ha⟩ := isMat_inr hM
    have hpr := prime_of hp0
    have hp : (2 : Nat) ^ n ≤ 256 := Nat.pow_le_pow_right (n := 2) (by decide) hn
    have hp1 : 0 < (2 : Nat) ^ n := Nat.two_pow_pos n
    have hi := fun (s : Nat) (hs : s < 2 ^ n) => impl_MatrixRank.is p r n c hM hr hn hp0 ha hl s hs
    have hi2 : ∃ R : Nat → Nat, ∀ s : Nat, s < 2 ^ n → Ev (fun k => impl_MatrixRank.f k p (r : Int) (n : Int) c (s : Int)) (R s : Int) ∧ (R s = card s ↔ Ind p (mx n c) r n (bitsP s)) := by
      refine ⟨fun s => if hs : s < 2 ^ n then Classical.choose (hi s hs) else 0, fun s hs => ?_⟩
      simp only [hs, dif_pos]
      rw [card_cnt hn hs]
      exact Classical.choose_spec (hi s hs)
    obtain ⟨R, hR⟩ := hi2
    have hB : ∀ s, s < 2 ^ n → ((R s == card s) = true ↔ Ind p (mx n c) r n (bitsP s)) := fun s hs => by rw [beq_iff_eq]; exact (hR s hs).2
    have hs0 : (2 ^ n - 1 : Nat) < 256 := by omega
    obtain ⟨E, P, hS, hE, hEv⟩ := spec_l4Rank.is p hp0 r n hr hn (2 ^ n - 1) hs0 c ha
    have hE2 := Ech.cong (T := fun _ => true) (fun j hj => by rw [Nat.testBit_two_pow_sub_one]; simp [hj]) hE
    refine ⟨((n : Int), setsB (fun s => (R s == card s) && card s == cnt P n) n), setsB_length hn, ?_, ?_⟩
    ·
      unfold impl_FromMatrix.f
      refine Ev.bind (impl_IsMatrix.is p _ _ _ hl) ?_
      rw [hM]
      refine Ev.pos rfl ?_
      obtain ⟨K, hK⟩ := Ev.all (f := fun s k => impl_MatrixRank.f k p (r : Int) (n : Int) c (s : Int)) (2 ^ n) (fun s hs => (hR s hs).1)
      have hsets : Ev (fun k => impl_FromMatrix_sets.f k (n : Int) p (r : Int) (n : Int) c) (setsB (fun s => R s == card s) n) := by
        refine ⟨K, fun k hk => ?_⟩
        show impl_FromMatrix_sets.f k (n : Int) p (r : Int) (n : Int) c = _
        unfold impl_FromMatrix_sets.f
        rw [fullI_nat hn, if_pos (List.all_eq_true.2 (fun s hs => by rw [hK s (List.mem_range.1 hs) k hk]; rfl)), setsList_nat hn]
        congr 1
        refine setsB_congr (fun s hs => ?_)
        rw [hK s hs k hk, cntI_is (by omega), Bool.eq_iff_iff, beq_iff_eq, beq_iff_eq, Option.some.injEq]
        omega
      refine Ev.bind hsets (Ev.bind (v := ((n : Int), setsB (fun s => (R s == card s) && card s == cnt P n) n, true)) ?_ (Ev.of rfl))
      unfold impl_fromIndependent.f
      have h256 := setsB_length (B := fun s => R s == card s) hn
      have hmax := impl_MaximalSets.is (setsB (fun s => R s == card s) n) (by omega) (setsB_range hn)
      rw [sortSets_asc (setsB_asc _ _), mm.max hn hpr hE2 hS hB] at hmax
      refine Ev.bind hmax ?_
      have h257 := setsB_length (B := fun s => (R s == card s) && card s == cnt P n) hn
      have hmat := impl_IsMatroid.is (n : Int) (setsB (fun s => (R s == card s) && card s == cnt P n) n) (by rw [maxLen_eq]; omega)
      rw [matr_iff.2 (mm.mat hn hpr hE2 hS hB)] at hmat
      exact Ev.bind hmat (Ev.pos rfl (Ev.of rfl))
    ·
      unfold spec_FromMatrix.f
      refine Ev.bind (spec_IsMatrix.is p _ _ _ hl) ?_
      rw [hM]
      refine Ev.pos rfl (Ev.bind (v := ((n : Int), setsB (fun s => (R s == card s) && card s == cnt P n) n)) ?_ (Ev.of rfl))
      unfold spec_l4Matrix.f
      refine Ev.bind_some (spec_FullSet.is hn) (Ev.bind hEv ?_)
      have key : ∀ d s : Nat, s + d = 2 ^ n → Ev (fun k => spec_l4Matrix.l0 k p (r : Int) (n : Int) c ((cnt P n : Nat) : Int) (s : Int) (n : Int) (((List.range s).filter (fun s => (R s == card s) && card s == cnt P n)).map (fun (k : Nat) => (k : Int)))) ((n : Int), setsB (fun s => (R s == card s) && card s == cnt P n) n) := by
        intro d
        induction d with
        | zero =>
          intro s hs
          refine Ev.succ ?_
          simp only [spec_l4Matrix.l0]
          refine Ev.bind_some (spec_FullSet.is hn) (Ev.neg (by omega) (Ev.of ?_))
          have : s = 2 ^ n := by omega
          subst this; rfl
        | succ d ih =>
          intro s hs
          have hs2 : s < 2 ^ n := by omega
          have ih2 := ih (s + 1) (by omega)
          rw [setsB_take] at ih2
          have hlen : (((List.range s).filter (fun s => (R s == card s) && card s == cnt P n)).map (fun (k : Nat) => (k : Int))).length ≤ 256 := by
            rw [List.length_map]
            have := List.length_filter_le (fun s => (R s == card s) && card s == cnt P n) (List.range s)
            rw [List.length_range] at this
            omega
          obtain ⟨E1, P1, q1, q2, q3⟩ := spec_l4Rank.is p hp0 r n hr hn s (by omega) c ha
          have hrk : cnt P1 n = card s ↔ (R s == card s) = true := by
            rw [hB s hs2, card_cnt hn hs2, show cnt (bitsP s) n = cnt (fun y => s.testBit y) n from rfl, q2.rank hpr, ← q1.ind]; exact Iff.rfl
          refine Ev.succ ?_
          simp only [spec_l4Matrix.l0]
          refine Ev.bind_some (spec_FullSet.is hn) (Ev.pos (by omega) (Ev.bind (spec_CountOf.is (by omega)) ?_))
          rw [wnext (by omega)]
          by_cases h1 : card s = cnt P n
          · refine Ev.pos (by omega) (Ev.bind q3 ?_)
            rw [h1] at hrk
            by_cases h2 : cnt P1 n = cnt P n
            · refine Ev.pos (by omega) (Ev.pos (by omega) ?_)
              have h3 := hrk.1 h2
              rw [h1] at ih2
              simp only [h3, Bool.true_and, beq_self_eq_true, if_true] at ih2
              exact ih2
            · refine Ev.neg (by omega) ?_
              have h3 : (R s == cnt P n) = false := by
                rw [Bool.eq_false_iff]; exact fun h => h2 (hrk.2 h)
              rw [h1] at ih2
              simp only [h3, Bool.false_and, Bool.false_eq_true, if_false, List.append_nil] at ih2
              exact ih2
          · refine Ev.neg (by omega) ?_
            have h3 : (card s == cnt P n) = false := by simp [h1]
            simp only [h3, Bool.and_false, Bool.false_eq_true, if_false, List.append_nil] at ih2
            exact ih2
      have h := key (2 ^ n) 0 (by omega)
      exact h
  · have hM : isMat p r n c = false := by simpa using hM
    refine ⟨(0, []), by simp, ?_, ?_⟩
    · unfold impl_FromMatrix.f
      refine Ev.bind (impl_IsMatrix.is p r n c hl) ?_
      rw [hM]
      exact Ev.neg (by decide) (Ev.of rfl)
    · unfold spec_FromMatrix.f
      refine Ev.bind (spec_IsMatrix.is p r n c hl) ?_
      rw [hM]
      exact Ev.neg (by decide) (Ev.of rfl)
end Go.Proofs.Ytbhckhblonkajaa.Q
namespace Go.Proofs.Ytbhckhblonkajaa.Q
open Go.RowKit Go.Proofs.YtbhckhblonkajaaW.PrintWords Go.Proofs.YtbhckhblonkajaaW.PrintLast Go.Proofs.YtbhckhblonkajaaW.PrintMore
theorem slices_Contains.is (l : List Int) (x : Int) (hl : l.length ≤ maxLen) : Ev (fun k => impl_HasSet.f k l x) (hasI l x) := by
  have hm := maxLen_eq
  have key : ∀ d i, i + d = l.length → ∃ v : Int, (v ≥ 0 ↔ ∃ j, i ≤ j ∧ j < l.length ∧ rd l (j : Int) = x) ∧ Ev (fun k => slices_Index_int_int.l0 k l x (l.length : Int) (i : Int)) v := by
    intro d
    induction d with
    | zero =>
      intro i hi
      refine ⟨-1, ⟨fun h => absurd h (by decide), fun ⟨j, h1, h2, _⟩ => by omega⟩, Ev.succ ?_⟩
      simp only [slices_Index_int_int.l0]
      exact Ev.neg (by omega) (Ev.of rfl)
    | succ d ih =>
      intro i hi
      obtain ⟨v, h1, h2⟩ := ih (i + 1) (by omega)
      by_cases h : rd l (i : Int) = x
      · refine ⟨(i : Int), ⟨fun _ => ⟨i, Nat.le_refl _, by omega, h⟩, fun _ => by omega⟩, Ev.succ ?_⟩
        simp only [slices_Index_int_int.l0]
        first
          | exact Ev.pos (by omega) (Ev.pos (by omega) (Ev.pos (by omega) (Ev.pos h (Ev.of rfl))))
          | exact Ev.pos (by omega) (Ev.pos (by omega) (Ev.pos (by omega) (Ev.pos h.symm (Ev.of rfl))))
      · refine ⟨v, ?_, Ev.succ ?_⟩
        · rw [h1]
          constructor
          · rintro ⟨j, a, b, c⟩; exact ⟨j, by omega, b, c⟩
          · rintro ⟨j, a, b, c⟩
            by_cases e : j = i
            · subst e; exact absurd c h
            · exact ⟨j, by omega, b, c⟩
        · simp only [slices_Index_int_int.l0]
          first
            | refine Ev.pos (by omega) (Ev.pos (by omega) (Ev.pos (by omega) (Ev.neg h ?_)))
            | refine Ev.pos (by omega) (Ev.pos (by omega) (Ev.pos (by omega) (Ev.neg (fun e => h e.symm) ?_)))
          rw [wnext (by omega)]; exact h2
  obtain ⟨v, h1, h2⟩ := key l.length 0 (by omega)
  unfold impl_HasSet.f
  refine Ev.bind (v := hasI l x) ?_ (Ev.of rfl)
  unfold slices_Contains_int_int.f
  refine Ev.bind (v := v) (by unfold slices_Index_int_int.f; exact h2) (Ev.of ?_)
  congr 1
  rw [Bool.eq_iff_iff, decide_eq_true_iff, h1, hasI_iff]
  exact ⟨fun ⟨j, _, a, b⟩ => ⟨j, a, b⟩, fun ⟨j, a, b⟩ => ⟨j, Nat.zero_le _, a, b⟩⟩
theorem shl_pow {f : Nat} (hf : f < 8) : shl .i64 1 (f : Int) = ((2 ^ f : Nat) : Int) := by
  have h : ∀ f : Fin 8, shl .i64 1 (f.val : Int) = ((2 ^ f.val : Nat) : Int) := by decide +kernel
  exact h ⟨f, hf⟩
theorem pow_lt8 {f : Nat} (hf : f < 8) : 2 ^ f < 256 := Nat.pow_lt_pow_right (n := 8) (by decide) hf
theorem add_pow {o f : Nat} (ho : o < 256) (hf : f < 8) (h : o.testBit f = false) : wrap64 ((o : Int) + shl .i64 1 (IntKind.u64.wrap (f : Int))) = ((o ||| 2 ^ f : Nat) : Int) := by
  have h2 : ∀ (o : Fin 256) (f : Fin 8), o.val.testBit f.val = false → wrap64 ((o.val : Int) + shl .i64 1 (IntKind.u64.wrap (f.val : Int))) = ((o.val ||| 2 ^ f.val : Nat) : Int) := by decide +kernel
  exact h2 ⟨o, ho⟩ ⟨f, hf⟩ h
theorem shl_pow2 {f : Nat} (hf : f < 8) : shl .i64 1 (IntKind.u64.wrap (f : Int)) = ((2 ^ f : Nat) : Int) := by
  have h : ∀ f : Fin 8, shl .i64 1 (IntKind.u64.wrap (f.val : Int)) = ((2 ^ f.val : Nat) : Int) := by decide +kernel
  exact h ⟨f, hf⟩
theorem impl_circuit.is (n : Int) (l : List Int) (hl : l.length ≤ maxLen) (s e : Nat) (hs : s < 256) (he : e < 8) (h0 : s.testBit e = false) :
    ∃ c : Nat, c < 256 ∧ (∀ b, s.testBit b = true → c.testBit b = hasI l (swp s b e)) ∧ Ev (fun k => impl_circuit.f k n l (s : Int) (e : Int)) (c : Int) := by
  have hm := maxLen_eq
  have h8 := els_length (s := s)
  have key : ∀ d i, i + d = (els s).length → ∀ o : Nat, o < 256 → (∀ b, s.testBit b = true → (o.testBit b = true ↔ ∃ t, t < i ∧ rd (els s) (t : Int) = (b : Int) ∧ hasI l (swp s b e) = true)) →
      ∃ c : Nat, c < 256 ∧ (∀ b, s.testBit b = true → c.testBit b = hasI l (swp s b e)) ∧ Ev (fun k => impl_circuit.l0 k (s : Int) (e : Int) (o : Int) (els s) ((els s).length : Int) (i : Int) n l) (c : Int) := by
    intro d
    induction d with
    | zero =>
      intro i hi o ho hb
      refine ⟨o, ho, fun b hsb => ?_, Ev.succ ?_⟩
      · rw [Bool.eq_iff_iff, hb b hsb]
        constructor
        · rintro ⟨_, _, _, h⟩; exact h
        · intro h
          obtain ⟨t, ht, hte⟩ := List.mem_iff_getElem.1 (mem_els.2 ⟨b, bit_lt (n := 8) hs hsb, hsb, rfl⟩)
          exact ⟨t, by omega, by rw [rd_nat ht]; exact hte, h⟩
      · simp only [impl_circuit.l0]
        exact Ev.neg (by omega) (Ev.of rfl)
    | succ d ih =>
      intro i hi o ho hb
      have hil : i < (els s).length := by omega
      obtain ⟨x, hx8, hxs, hxe⟩ := mem_els.1 (rd_mem (l := els s) (i := i) hil)
      have hset : Go.bits .or .i64 (Go.bits .andNot .i64 (s : Int) (shl .i64 1 (x : Int))) (shl .i64 1 (e : Int)) = (swp s x e : Int) := by
        rw [xch_impl hs hx8 he hxs h0, xch_swp hs hx8 he hxs h0]
      have hput : Go.bits .or .i64 (o : Int) (shl .i64 1 (x : Int)) = ((o ||| 2 ^ x : Nat) : Int) := by
        rw [shl_pow hx8]; exact bits_or ho (pow_lt8 hx8)
      have enter : ∀ v, (if hasI l (swp s x e) = true then Ev (fun k => impl_circuit.l0 k (s : Int) (e : Int) ((o ||| 2 ^ x : Nat) : Int) (els s) ((els s).length : Int) ((i + 1 : Nat) : Int) n l) v else Ev (fun k => impl_circuit.l0 k (s : Int) (e : Int) (o : Int) (els s) ((els s).length : Int) ((i + 1 : Nat) : Int) n l) v) →
          Ev (fun k => impl_circuit.l0 k (s : Int) (e : Int) (o : Int) (els s) ((els s).length : Int) (i : Int) n l) v := fun v hv => by
        refine Ev.succ ?_
        simp only [impl_circuit.l0]
        refine Ev.pos (by omega) (Ev.pos (by omega) (Ev.pos (by omega) ?_))
        rw [hxe]
        refine Ev.pos (by omega) (Ev.pos (by omega) ?_)
        rw [hset, hput, wnext (by omega)]
        refine Ev.bind (slices_Contains.is l _ hl) ?_
        by_cases h : hasI l (swp s x e) = true
        · rw [if_pos h] at hv; exact Ev.pos h hv
        · rw [if_neg h] at hv; exact Ev.neg h hv
      by_cases h : hasI l (swp s x e) = true
      · obtain ⟨c, c1, c2, c3⟩ := ih (i + 1) (by omega) (o ||| 2 ^ x) (or_lt ho (pow_lt8 hx8)) (fun b hsb => by
          rw [or_bit, Bool.or_eq_true, hb b hsb, beq_iff_eq]
          constructor
          · rintro (⟨t, a1, a2, a3⟩ | rfl)
            · exact ⟨t, by omega, a2, a3⟩
            · exact ⟨i, by omega, hxe, h⟩
          · rintro ⟨t, a1, a2, a3⟩
            by_cases et : t = i
            · subst et; right; omega
            · left; exact ⟨t, by omega, a2, a3⟩)
        exact ⟨c, c1, c2, enter _ (by rw [if_pos h]; exact c3)⟩
      · obtain ⟨c, c1, c2, c3⟩ := ih (i + 1) (by omega) o ho (fun b hsb => by
          rw [hb b hsb]
          constructor
          · rintro ⟨t, a1, a2, a3⟩
            exact ⟨t, by omega, a2, a3⟩
          · rintro ⟨t, a1, a2, a3⟩
            by_cases et : t = i
            · subst et
              have : b = x := by omega
              subst this
              exact absurd a3 h
            · exact ⟨t, by omega, a2, a3⟩)
        exact ⟨c, c1, c2, enter _ (by rw [if_neg h]; exact c3)⟩
  obtain ⟨c, c1, c2, c3⟩ := key (els s).length 0 (by omega) (2 ^ e) (pow_lt8 he) (fun b hsb => by
    rw [Nat.testBit_two_pow]
    constructor
    · intro h
      have : e = b := by simpa using h
      subst this
      rw [h0] at hsb; exact absurd hsb (by decide)
    · rintro ⟨t, ht, _⟩; omega)
  refine ⟨c, c1, c2, ?_⟩
  unfold impl_circuit.f
  refine Ev.pos (by omega) (Ev.bind (impl_ElementsOf.is hs) ?_)
  rw [shl_pow he]; exact c3
theorem spec_CircuitOf.is (n : Nat) (l : List Int) (hl : l.length ≤ maxLen) (hM : Mat n l) (s e : Nat) (hsl : (s : Int) ∈ l) (he : e < n) (h0 : s.testBit e = false) :
    ∃ c : Nat, c < 256 ∧ (∀ b, s.testBit b = true → c.testBit b = hasI l (swp s b e)) ∧ Ev (fun k => spec_CircuitOf.f k (n : Int) l (s : Int) (e : Int)) (c : Int) := by
  have hm := maxLen_eq
  have hn := hM.n8
  have hp : (2 : Nat) ^ n ≤ 256 := Nat.pow_le_pow_right (n := 2) (by decide) hn
  obtain ⟨s2, hs2, es⟩ := hM.sets _ hsl
  obtain rfl : s = s2 := by omega
  have hs : s < 256 := by omega
  have key : ∀ d i, i + d = n → ∀ o : Nat, o < 256 → (∀ b, s.testBit b = true → (o.testBit b = true ↔ b < i ∧ hasI l (swp s b e) = true)) →
      ∃ c : Nat, c < 256 ∧ (∀ b, s.testBit b = true → c.testBit b = hasI l (swp s b e)) ∧ Ev (fun k => spec_CircuitOf.l0 k (s : Int) (e : Int) (o : Int) (i : Int) (n : Int) l) (c : Int) := by
    intro d
    induction d with
    | zero =>
      intro i hi o ho hb
      refine ⟨o, ho, fun b hsb => ?_, Ev.succ ?_⟩
      · rw [Bool.eq_iff_iff, hb b hsb]
        exact ⟨fun h => h.2, fun h => ⟨by have := bit_lt hs2 hsb; omega, h⟩⟩
      · simp only [spec_CircuitOf.l0]
        exact Ev.neg (by omega) (Ev.of rfl)
    | succ d ih =>
      intro i hi o ho hb
      have hi8 : i < 8 := by omega
      have hl2 := spec_l2Has.is (s := (s : Int)) (e := (i : Int)) (by omega) (by omega) (by omega) (by omega)
      rw [has_nat] at hl2
      by_cases hsi : s.testBit i = true
      · have hset : wrap64 (wrap64 ((s : Int) - shl .i64 1 (IntKind.u64.wrap (i : Int))) + shl .i64 1 (IntKind.u64.wrap (e : Int))) = (swp s i e : Int) := by
          rw [xch_spec (by omega) (by omega) (by omega) (by omega) (by omega) (by omega), xch_swp hs hi8 (by omega) hsi h0]
        have hoi : o.testBit i = false := by
          rw [Bool.eq_false_iff]
          intro h
          have := ((hb i hsi).1 h).1
          omega
        have enter : ∀ v, (if hasI l (swp s i e) = true then Ev (fun k => spec_CircuitOf.l0 k (s : Int) (e : Int) ((o ||| 2 ^ i : Nat) : Int) ((i + 1 : Nat) : Int) (n : Int) l) v else Ev (fun k => spec_CircuitOf.l0 k (s : Int) (e : Int) (o : Int) ((i + 1 : Nat) : Int) (n : Int) l) v) →
            Ev (fun k => spec_CircuitOf.l0 k (s : Int) (e : Int) (o : Int) (i : Int) (n : Int) l) v := fun v hv => by
          refine Ev.succ ?_
          simp only [spec_CircuitOf.l0]
          refine Ev.pos (by omega) (Ev.bind_some hl2 (Ev.pos hsi (Ev.pos (u64_nonneg _) (Ev.pos (u64_nonneg _) ?_))))
          rw [hset, add_pow ho hi8 hoi, wnext (by omega)]
          refine Ev.bind (spec_HasSet.is l _ hl) ?_
          by_cases h : hasI l (swp s i e) = true
          · rw [if_pos h] at hv; exact Ev.pos h hv
          · rw [if_neg h] at hv; exact Ev.neg h hv
        by_cases h : hasI l (swp s i e) = true
        · obtain ⟨c, c1, c2, c3⟩ := ih (i + 1) (by omega) (o ||| 2 ^ i) (or_lt ho (pow_lt8 hi8)) (fun b hsb => by
            rw [or_bit, Bool.or_eq_true, hb b hsb, beq_iff_eq]
            constructor
            · rintro (⟨a1, a2⟩ | rfl)
              · exact ⟨by omega, a2⟩
              · exact ⟨by omega, h⟩
            · rintro ⟨a1, a2⟩
              by_cases et : b = i
              · right; exact et
              · left; exact ⟨by omega, a2⟩)
          exact ⟨c, c1, c2, enter _ (by rw [if_pos h]; exact c3)⟩
        · obtain ⟨c, c1, c2, c3⟩ := ih (i + 1) (by omega) o ho (fun b hsb => by
            rw [hb b hsb]
            constructor
            · rintro ⟨a1, a2⟩; exact ⟨by omega, a2⟩
            · rintro ⟨a1, a2⟩
              by_cases et : b = i
              · subst et; exact absurd a2 h
              · exact ⟨by omega, a2⟩)
          exact ⟨c, c1, c2, enter _ (by rw [if_neg h]; exact c3)⟩
      · obtain ⟨c, c1, c2, c3⟩ := ih (i + 1) (by omega) o ho (fun b hsb => by
          rw [hb b hsb]
          constructor
          · rintro ⟨a1, a2⟩; exact ⟨by omega, a2⟩
          · rintro ⟨a1, a2⟩
            by_cases et : b = i
            · subst et; exact absurd hsb hsi
            · exact ⟨by omega, a2⟩)
        refine ⟨c, c1, c2, Ev.succ ?_⟩
        simp only [spec_CircuitOf.l0]
        refine Ev.pos (by omega) (Ev.bind_some hl2 (Ev.neg hsi ?_))
        rw [wnext (by omega)]; exact c3
  obtain ⟨c, c1, c2, c3⟩ := key n 0 (by omega) (2 ^ e) (pow_lt8 (by omega)) (fun b hsb => by
    rw [Nat.testBit_two_pow]
    constructor
    · intro h
      have : e = b := by simpa using h
      subst this
      rw [h0] at hsb; exact absurd hsb (by decide)
    · rintro ⟨h, _⟩; omega)
  refine ⟨c, c1, c2, ?_⟩
  have hl2 := spec_l2Has.is (s := (s : Int)) (e := (e : Int)) (by omega) (by omega) (by omega) (by omega)
  rw [has_nat, h0] at hl2
  have hmat := spec_IsMatroid.is (n : Int) l hl
  rw [matr_iff.2 hM] at hmat
  have hin := spec_l1In.is (e : Int) 0 (wrap64 ((n : Int) - 1))
  rw [w64 (by omega) (by omega), show (decide ((0 : Int) ≤ (e : Int)) && decide ((e : Int) ≤ (n : Int) - 1)) = true by simp; omega] at hin
  unfold spec_CircuitOf.f
  refine Ev.bind hmat (Ev.pos rfl (Ev.bind (spec_HasSet.is l _ hl) (Ev.pos (hasI_mem.2 hsl) ?_)))
  rw [w64 (by omega) (by omega)]
  refine Ev.bind_some hin (Ev.pos rfl (Ev.bind_some hl2 (Ev.succ ?_)))
  simp only [spec_CircuitOf.j0]
  refine Ev.neg (by decide) (Ev.pos (u64_nonneg _) ?_)
  rw [shl_pow2 (by omega)]; exact c3
def agree (os : List Nat) (X X' : List Int) : Prop := X.length = X'.length ∧ ∀ i, i ∉ os → X[i]? = X'[i]?
theorem agree.refl (os : List Nat) (X : List Int) : agree os X X := ⟨rfl, fun _ _ => rfl⟩
theorem agree.trans {os : List Nat} {X Y Z : List Int} (h : agree os X Y) (h2 : agree os Y Z) : agree os X Z := ⟨h.1.trans h2.1, fun i hi => (h.2 i hi).trans (h2.2 i hi)⟩
theorem agree.set {o : Nat} {os : List Nat} {X X' : List Int} (h : agree (o :: os) X X') (c : Int) : agree os (X.set o c) (X'.set o c) := by
  refine ⟨by rw [List.length_set, List.length_set]; exact h.1, fun i hi => ?_⟩
  rw [List.getElem?_set, List.getElem?_set]
  by_cases e : o = i
  · rw [if_pos e, if_pos e, h.1]
  · rw [if_neg e, if_neg e]
    refine h.2 i (fun hm => ?_)
    rcases List.mem_cons.1 hm with h1 | h1
    · exact e h1.symm
    · exact hi h1
theorem agree.of_set {o : Nat} {os : List Nat} {X X' : List Int} {c : Int} (h : agree os (X.set o c) X') : agree (o :: os) X X' := by
  refine ⟨by rw [← h.1, List.length_set], fun i hi => ?_⟩
  rw [← h.2 i (fun hm => hi (List.mem_cons_of_mem _ hm)), List.getElem?_set, if_neg (fun e => hi (by rw [e]; exact List.mem_cons_self))]
def srchV (g : List Int → Option (List Int)) (o : Nat) (X : List Int) : Nat → Nat → Option (List Int)
  | _, 0 => none
  | c, d + 1 => match g (X.set o (c : Int)) with
    | some Y => some Y
    | none => srchV g o X (c + 1) d
def srch (p : Nat) (T : List Int → Bool) : List Nat → List Int → Option (List Int)
  | [], X => if T X then some X else none
  | o :: os, X => srchV (srch p T os) o X 1 (p - 1)
theorem srch_agree (p : Nat) (T : List Int → Bool) : ∀ os X X', agree os X X' → srch p T os X = srch p T os X' := by
  intro os
  induction os with
  | nil =>
    intro X X' h
    have : X = X' := List.ext_getElem? (fun i => h.2 i (by simp))
    rw [this]
  | cons o os ih =>
    intro X X' h
    have key : ∀ d c, srchV (srch p T os) o X c d = srchV (srch p T os) o X' c d := by
      intro d
      induction d with
      | zero => intro c; rfl
      | succ d ihd =>
        intro c
        simp only [srchV]
        rw [ih _ _ (h.set (c : Int)), ihd (c + 1)]
    exact key _ _
theorem srch_length (p : Nat) (T : List Int → Bool) : ∀ os X Y, srch p T os X = some Y → Y.length = X.length := by
  intro os
  induction os with
  | nil =>
    intro X Y h
    simp only [srch] at h
    split at h
    · rw [← Option.some.inj h]
    · cases h
  | cons o os ih =>
    intro X Y h
    have key : ∀ d c, srchV (srch p T os) o X c d = some Y → Y.length = X.length := by
      intro d
      induction d with
      | zero => intro c h; simp [srchV] at h
      | succ d ihd =>
        intro c h
        simp only [srchV] at h
        cases hg : srch p T os (X.set o (c : Int)) with
        | some Z =>
          rw [hg] at h
          have e : Z = Y := by simpa using h
          rw [← e, ih _ _ hg, List.length_set]
        | none =>
          rw [hg] at h
          exact ihd (c + 1) h
    exact key _ _ h
def nxtR (p : Nat) : List Nat → List Int → Bool × List Int
  | [], X => (false, X)
  | o :: rs, X => if rd X (o : Int) < (p : Int) - 1 then (true, X.set o (rd X (o : Int) + 1)) else nxtR p rs (X.set o 1)
theorem set_same {X : List Int} {o : Nat} {c : Int} (ho : o < X.length) (h : rd X (o : Int) = c) : X.set o c = X := by
  rw [rd_nat ho] at h
  rw [← h]
  exact List.set_getElem_self ho
theorem odo {p : Nat} (hp : 2 ≤ p) (T : List Int → Bool) (L : List Int → Option (List Int) → Prop) (Inv : List Int → Prop) (R : List Nat) (hR : R.Nodup)
    (hlen : ∀ X, Inv X → ∀ o ∈ R, o < X.length)
    (hI : ∀ X o (c : Nat), Inv X → o ∈ R → 1 ≤ c → c < p → Inv (X.set o (c : Int)))
    (hT : ∀ X, Inv X → T X = true → L X (some X))
    (hN : ∀ X v, Inv X → T X = false → ((nxtR p R X).1 = true → L (nxtR p R X).2 v) → ((nxtR p R X).1 = false → v = none) → L X v) :
    ∀ os rs, os.reverse ++ rs = R → ∀ X, Inv X → (∀ o : Nat, o ∈ os → rd X (o : Int) = 1) →
      (∀ Y, srch p T os X = some Y → L X (some Y)) ∧ (srch p T os X = none → ∀ v, ((nxtR p rs X).1 = true → L (nxtR p rs X).2 v) → ((nxtR p rs X).1 = false → v = none) → L X v) := by
  intro os
  induction os with
  | nil =>
    intro rs hrs X hX h1
    simp only [List.reverse_nil, List.nil_append] at hrs
    subst hrs
    simp only [srch]
    cases hTX : T X
    · refine ⟨fun Y h => by simp at h, fun _ v a b => hN X v hX hTX a b⟩
    · refine ⟨fun Y h => ?_, fun h => by simp at h⟩
      have : X = Y := by simpa using h
      rw [← this]; exact hT X hX hTX
  | cons o os ih =>
    intro rs hrs X hX h1
    have hrs2 : os.reverse ++ (o :: rs) = R := by rw [← hrs]; simp
    have hoR : o ∈ R := by rw [← hrs2]; simp
    have hnot : o ∉ os := fun hm => by
      rw [← hrs2] at hR
      have := (List.nodup_append.1 hR).2.2 o (List.mem_reverse.2 hm) o List.mem_cons_self
      exact this rfl
    have inner : ∀ d c, c + (d + 1) = p → 1 ≤ c → ∀ X, Inv X → rd X (o : Int) = (c : Int) → (∀ q ∈ os, rd X (q : Int) = 1) →
        (∀ Y, srchV (srch p T os) o X c (d + 1) = some Y → L X (some Y)) ∧
        (srchV (srch p T os) o X c (d + 1) = none → ∀ v, ((nxtR p rs (X.set o 1)).1 = true → L (nxtR p rs (X.set o 1)).2 v) → ((nxtR p rs (X.set o 1)).1 = false → v = none) → L X v) := by
      intro d
      induction d with
      | zero =>
        intro c hc hc1 X hX hXo hXs
        have hol := hlen X hX o hoR
        obtain ⟨a, b⟩ := ih (o :: rs) hrs2 X hX hXs
        have e : nxtR p (o :: rs) X = nxtR p rs (X.set o 1) := by
          simp only [nxtR]
          rw [if_neg (by omega)]
        rw [e] at b
        simp only [srchV]
        rw [set_same hol hXo]
        refine ⟨fun Y h => ?_, fun h v => ?_⟩
        · cases hg : srch p T os X with
          | none => rw [hg] at h; simp at h
          | some Z => rw [hg] at h; rw [← h]; exact a Z hg
        · cases hg : srch p T os X with
          | none => exact b hg v
          | some Z => rw [hg] at h; simp at h
      | succ d ihd =>
        intro c hc hc1 X hX hXo hXs
        have hol := hlen X hX o hoR
        obtain ⟨a, b⟩ := ih (o :: rs) hrs2 X hX hXs
        have e : nxtR p (o :: rs) X = (true, X.set o ((c + 1 : Nat) : Int)) := by
          simp only [nxtR]
          rw [if_pos (by omega), hXo]; rfl
        rw [e] at b
        have hX2 := hI X o (c + 1) hX hoR (by omega) (by omega)
        obtain ⟨a2, b2⟩ := ihd (c + 1) (by omega) (by omega) (X.set o ((c + 1 : Nat) : Int)) hX2 (by rw [rd_set hol hol, if_pos rfl]) (fun q hq => by
          have hqR : q ∈ R := by rw [← hrs2]; simp [hq]
          rw [rd_set hol (hlen X hX q hqR), if_neg (fun (e2 : q = o) => hnot (by rw [← e2]; exact hq))]; exact hXs q hq)
        have ev : ∀ k c', srchV (srch p T os) o (X.set o ((c + 1 : Nat) : Int)) c' k = srchV (srch p T os) o X c' k := by
          intro k
          induction k with
          | zero => intro c'; rfl
          | succ k ihk =>
            intro c'
            simp only [srchV]
            rw [List.set_set, ihk (c' + 1)]
        rw [ev] at a2 b2
        rw [List.set_set] at b2
        have es : srchV (srch p T os) o X c (d + 1 + 1) = match srch p T os (X.set o (c : Int)) with
          | some Y => some Y
          | none => srchV (srch p T os) o X (c + 1) (d + 1) := rfl
        rw [es, set_same hol hXo]
        cases hg : srch p T os X with
        | some Z =>
          refine ⟨fun Y h => ?_, fun h => by simp at h⟩
          rw [← h]; exact a Z hg
        | none =>
          refine ⟨fun Y h => ?_, fun h v h3 h4 => ?_⟩
          · exact b hg _ (fun _ => a2 Y h) (fun h => by simp at h)
          · exact b hg v (fun _ => b2 h v h3 h4) (fun h => by simp at h)
    have hol := hlen X hX o hoR
    have hXo : rd X (o : Int) = 1 := h1 o List.mem_cons_self
    obtain ⟨a, b⟩ := inner (p - 2) 1 (by omega) (Nat.le_refl _) X hX hXo (fun q hq => h1 q (List.mem_cons_of_mem _ hq))
    rw [set_same hol hXo, show p - 2 + 1 = p - 1 by omega] at b
    rw [show p - 2 + 1 = p - 1 by omega] at a
    exact ⟨a, b⟩
end Go.Proofs.Ytbhckhblonkajaa.Q
