/- Part of a proof: contracts and lemmas that the row's text uses; joined by a program. -/
import Derived.Test.YtbhckhblonkajaaH04
import Derived.Test.YtbhckhblonkajaaH11
import Derived.Test.YtbhckhblonkajaaH12
import Derived.Test.YtbhckhblonkajaaH17
import Derived.Test.YtbhckhblonkajaaH19
import Derived.Test.YtbhckhblonkajaaH21
import Derived.Test.YtbhckhblonkajaaH25
set_option linter.unusedVariables false
set_option linter.unusedSimpArgs false
namespace Go.Proofs.Ytbhckhblonkajaa.Q
open Go.RowKit Go.Proofs.YtbhckhblonkajaaW.PrintWords Go.Proofs.YtbhckhblonkajaaW.PrintLast Go.Proofs.YtbhckhblonkajaaW.PrintMore
open Go.Proofs.Lin
theorem Ind.congr {p : Int} {M : Nat → Nat → Int} {r n : Nat} {S T : Nat → Bool} (h : ∀ j, j < n → S j = T j) (hI : Ind p M r n S) : Ind p M r n T := by
  intro c hc j hj hT
  refine hI c (fun i hi => ?_) j hj (by rw [h j hj]; exact hT)
  have := hc i hi
  rwa [show sumOn S n (fun j => M i j * c j) = sumOn T n (fun j => M i j * c j) from sumOn_sub (fun j hj => by rw [h j hj])]
theorem Ind.sub {p : Int} {M : Nat → Nat → Int} {r n : Nat} {S T : Nat → Bool} (h : ∀ j, j < n → T j = true → S j = true) (hI : Ind p M r n S) : Ind p M r n T := by
  intro c hc j hj hT
  have := hI (fun j => if T j then c j else 0) (fun i hi => by
    have h1 := hc i hi
    rwa [show sumOn S n (fun j => M i j * (if T j then c j else 0)) = sumOn T n (fun j => M i j * c j) from sumOn_sub (fun j hj => by
      by_cases hT : T j = true
      · simp [hT, h j hj hT]
      · simp [hT])]) j hj (h j hj hT)
  simpa [hT] using this
theorem card_sub {s t n : Nat} (hn : n ≤ 8) (hs : s < 2 ^ n) (ht : t < 2 ^ n) (h : ∀ j, s.testBit j = true → t.testBit j = true) (hne : s ≠ t) : card s < card t := by
  have h1 : ∃ j, j < n ∧ t.testBit j = true ∧ s.testBit j = false := by
    apply Classical.byContradiction
    intro hc
    refine hne (set_ext hs ht (fun j hj => ?_))
    cases hsj : s.testBit j
    · cases htj : t.testBit j
      · rfl
      · exact absurd ⟨j, hj, htj, hsj⟩ hc
    · rw [h j hsj]
  obtain ⟨j, hj, h2, h3⟩ := h1
  rw [card_cnt hn hs, card_cnt hn ht, cnt_drop (S := bitsP t) hj h2]
  refine Nat.lt_succ_of_le (cnt_le (fun i hi hsi => ?_))
  have hne2 : i ≠ j := fun e => by subst e; rw [show bitsP s i = s.testBit i from rfl, h3] at hsi; exact Bool.false_ne_true hsi
  simp [drop1, hne2, bitsP, h i hsi]
theorem or_bit {s q j : Nat} : (s ||| 2 ^ q).testBit j = (s.testBit j || (j == q)) := by
  rw [Nat.testBit_or, Nat.testBit_two_pow]
  by_cases e : q = j
  · subst e; simp
  · have e2 : ¬ j = q := fun h => e h.symm
    simp [e, e2]
theorem or_lt_pow {s q n : Nat} (hs : s < 2 ^ n) (hq : q < n) : s ||| 2 ^ q < 2 ^ n := Nat.or_lt_two_pow hs (Nat.pow_lt_pow_right (by decide) hq)
section
variable {p : Int} {M E : Nat → Nat → Int} {r n : Nat} {P : Nat → Bool} {B : Nat → Bool}
theorem mm.le (hn : n ≤ 8) (hpr : Prime p) (hE : Ech p E r n (fun _ => true) P) (hS : Sol p r n M E) (hB : ∀ s, s < 2 ^ n → (B s = true ↔ Ind p M r n (bitsP s))) {s : Nat} (hs : s < 2 ^ n) (h : B s = true) : card s ≤ cnt P n := by
  rw [card_cnt hn hs]
  exact hE.le hpr (fun _ _ _ => rfl) ((hS.ind _).1 ((hB s hs).1 h))
theorem mm.aug (hn : n ≤ 8) (hpr : Prime p) (hB : ∀ s, s < 2 ^ n → (B s = true ↔ Ind p M r n (bitsP s))) {s t : Nat} (hs : s < 2 ^ n) (ht : t < 2 ^ n) (h : B s = true) (h2 : B t = true) (hlt : card s < card t) :
    ∃ q, q < n ∧ t.testBit q = true ∧ s.testBit q = false ∧ B (s ||| 2 ^ q) = true := by
  apply Classical.byContradiction
  intro hc
  rw [card_cnt hn hs, card_cnt hn ht] at hlt
  have := ((hB s hs).1 h).max hpr ((hB t ht).1 h2) (fun q hq h3 h4 h5 => hc ⟨q, hq, h3, h4, (hB _ (or_lt_pow hs hq)).2 (Ind.congr (fun j _ => by rw [show bitsP (s ||| 2 ^ q) j = (s ||| 2 ^ q).testBit j from rfl, or_bit]; rfl) h5)⟩)
  omega
theorem mm.full (hn : n ≤ 8) (hpr : Prime p) (hE : Ech p E r n (fun _ => true) P) (hS : Sol p r n M E) (hB : ∀ s, s < 2 ^ n → (B s = true ↔ Ind p M r n (bitsP s))) : ∃ t, t < 2 ^ n ∧ B t = true ∧ card t = cnt P n := by
  refine ⟨bitsOf P n, bitsOf_lt P n, (hB _ (bitsOf_lt P n)).2 ((hS.ind _).2 (Ind.congr (fun j hj => (bitsOf_bit hj).symm) (hE.pivots hpr))), ?_⟩
  rw [card_cnt hn (bitsOf_lt P n)]
  exact cnt_congr (fun j hj => bitsOf_bit hj)
theorem mm.max (hn : n ≤ 8) (hpr : Prime p) (hE : Ech p E r n (fun _ => true) P) (hS : Sol p r n M E) (hB : ∀ s, s < 2 ^ n → (B s = true ↔ Ind p M r n (bitsP s))) : maxOf (setsB B n) (setsB B n) = setsB (fun s => B s && card s == cnt P n) n := by
  have hp : (2 : Nat) ^ n ≤ 256 := Nat.pow_le_pow_right (n := 2) (by decide) hn
  unfold maxOf
  rw [filter_setsB]
  refine setsB_congr (fun s hs => ?_)
  cases h : B s
  · rfl
  · rw [Bool.true_and, Bool.true_and]
    have hle := mm.le hn hpr hE hS hB hs h
    by_cases hc : card s = cnt P n
    · rw [show (card s == cnt P n) = true by simp [hc], Bool.not_eq_true']
      rw [Bool.eq_false_iff]
      intro ha
      obtain ⟨x, hx, hh⟩ := List.any_eq_true.1 ha
      obtain ⟨t, ht, hBt, rfl⟩ := mem_setsB.1 hx
      rw [Bool.and_eq_true, subB_is (by omega) (by omega)] at hh
      have hlt := card_sub hn hs ht hh.2 (fun e => by rw [e] at hh; simp at hh)
      have := mm.le hn hpr hE hS hB ht hBt
      omega
    · rw [show (card s == cnt P n) = false by simp [hc], Bool.not_eq_false']
      obtain ⟨t0, ht0, hBt0, hct0⟩ := mm.full hn hpr hE hS hB
      obtain ⟨q, hq, h1, h2, h3⟩ := mm.aug hn hpr hB hs ht0 h hBt0 (by omega)
      refine List.any_eq_true.2 ⟨((s ||| 2 ^ q : Nat) : Int), mem_setsB.2 ⟨_, or_lt_pow hs hq, h3, rfl⟩, ?_⟩
      have hlt2 := or_lt_pow hs hq
      rw [Bool.and_eq_true, subB_is (by omega) (by omega)]
      refine ⟨?_, fun j hj => by rw [or_bit, hj]; rfl⟩
      have hne : s ||| 2 ^ q ≠ s := fun e => by
        have h4 : (s ||| 2 ^ q).testBit q = true := by rw [or_bit]; simp
        rw [e, h2] at h4
        exact Bool.false_ne_true h4
      simp only [bne_iff_ne, ne_eq]
      omega
theorem mm.mat (hn : n ≤ 8) (hpr : Prime p) (hE : Ech p E r n (fun _ => true) P) (hS : Sol p r n M E) (hB : ∀ s, s < 2 ^ n → (B s = true ↔ Ind p M r n (bitsP s))) : Mat n (setsB (fun s => B s && card s == cnt P n) n) := by
  refine ⟨hn, setsB_asc _ _, fun x hx => ?_, ?_, ?_⟩
  · obtain ⟨s, hs, _, rfl⟩ := mem_setsB.1 hx
    exact ⟨s, hs, rfl⟩
  · obtain ⟨t0, ht0, hBt0, hct0⟩ := mm.full hn hpr hE hS hB
    intro e
    have : (t0 : Int) ∈ setsB (fun s => B s && card s == cnt P n) n := mem_setsB.2 ⟨t0, ht0, by simp [hBt0, hct0], rfl⟩
    rw [e] at this
    simp at this
  · intro a b ha hb e h1 h2
    obtain ⟨a', ha', hBa, ea⟩ := mem_setsB.1 ha
    obtain ⟨b', hb', hBb, eb⟩ := mem_setsB.1 hb
    obtain rfl : a = a' := by omega
    obtain rfl : b = b' := by omega
    simp only [Bool.and_eq_true, beq_iff_eq] at hBa hBb
    have hen : e < n := bit_lt ha' h1
    have hd : a ^^^ 2 ^ e < 2 ^ n := Nat.xor_lt_two_pow ha' (Nat.pow_lt_pow_right (by decide) hen)
    have db : ∀ j, (a ^^^ 2 ^ e).testBit j = (a.testBit j && (j != e)) := fun j => by
      rw [Nat.testBit_xor, Nat.testBit_two_pow]
      by_cases e1 : e = j
      · subst e1; simp [h1]
      · have e4 : ¬ j = e := fun h => e1 h.symm
        simp [e1, e4]
    have hBd : B (a ^^^ 2 ^ e) = true := (hB _ hd).2 (Ind.sub (fun j hj hT => by
      rw [show bitsP (a ^^^ 2 ^ e) j = (a ^^^ 2 ^ e).testBit j from rfl, db, Bool.and_eq_true] at hT
      exact hT.1) ((hB a ha').1 hBa.1))
    have hcd : card a = card (a ^^^ 2 ^ e) + 1 := by
      rw [card_cnt hn ha', card_cnt hn hd, cnt_drop (S := bitsP a) hen h1]
      congr 1
      exact cnt_congr (fun j _ => by simp [drop1, bitsP, db])
    obtain ⟨q, hq, h3, h4, h5⟩ := mm.aug hn hpr hB hd hb' hBd hBb.1 (by omega)
    have hqe : q ≠ e := fun e1 => by subst e1; rw [h2] at h3; exact Bool.false_ne_true h3
    rw [db] at h4
    have h6 : a.testBit q = false := by simpa [hqe] using h4
    refine ⟨q, h3, h6, mem_setsB.2 ⟨swp a e q, or_lt_pow hd hq, ?_, rfl⟩⟩
    simp only [Bool.and_eq_true, beq_iff_eq]
    refine ⟨h5, ?_⟩
    have hsw : swp a e q < 2 ^ n := or_lt_pow hd hq
    have hcs : card (swp a e q) = card (a ^^^ 2 ^ e) + 1 := by
      rw [card_cnt hn hsw, card_cnt hn hd, cnt_drop (S := bitsP (swp a e q)) hq (by rw [show bitsP (swp a e q) q = (swp a e q).testBit q from rfl, swp_bit h1]; simp)]
      congr 1
      exact cnt_congr (fun j _ => by
        rw [show drop1 (bitsP (swp a e q)) q j = ((swp a e q).testBit j && (j != q)) from rfl, swp_bit h1, show bitsP (a ^^^ 2 ^ e) j = (a ^^^ 2 ^ e).testBit j from rfl, db]
        by_cases e1 : j = q
        · subst e1; simp [h6]
        · have e5 : (j != q) = true := by simp [e1]
          have e6 : (j == q) = false := by simp [e1]
          rw [e5, e6]; simp)
    omega
end
theorem Ev.all {α : Type} {f : Nat → Nat → Option α} {g : Nat → α} : ∀ m, (∀ s, s < m → Ev (f s) (g s)) → ∃ K, ∀ s, s < m → ∀ k, K ≤ k → f s k = some (g s) := by
  intro m
  induction m with
  | zero => exact fun _ => ⟨0, fun s hs => absurd hs (Nat.not_lt_zero s)⟩
  | succ m ih =>
    intro h
    obtain ⟨K, hK⟩ := ih (fun s hs => h s (by omega))
    obtain ⟨K2, hK2⟩ := h m (by omega)
    refine ⟨max K K2, fun s hs k hk => ?_⟩
    by_cases e : s = m
    · subst e; exact hK2 k (by omega)
    · exact hK s (by omega) k (by omega)
theorem isMat_inr {p r n : Int} {c : List Int} (h : isMat p r n c = true) : isFld p = true ∧ ∃ r' n' : Nat, r = (r' : Int) ∧ n = (n' : Int) ∧ r' ≤ 8 ∧ n' ≤ 8 ∧ Inr p r' n' c := by
  unfold isMat at h
  simp only [Bool.and_eq_true, decide_eq_true_eq, isSize_iff] at h
  obtain ⟨h1, h2, h3, h4, h5⟩ := h
  have e : c.length = r.toNat * n.toNat := by
    have e2 : ((r.toNat * n.toNat : Nat) : Int) = r * n := by
      rw [Int.natCast_mul, Int.toNat_of_nonneg h2.1, Int.toNat_of_nonneg h3.1]
    omega
  refine ⟨h1, r.toNat, n.toNat, by omega, by omega, by omega, by omega, e, fun x y hx hy => ?_⟩
  have h6 := allN_iff.1 h5 (x * n.toNat + y) (Nat.zero_le _) (by rw [e, Nat.zero_add]; exact idx_lt hx hy)
  unfold cellsOk at h6
  simp only [Bool.and_eq_true, decide_eq_true_eq] at h6
  unfold mx
  omega
theorem fullI_nat {n : Nat} (hn : n ≤ 8) : (fullI (n : Int) + 1).toNat = 2 ^ n := by
  unfold fullI
  rw [if_pos (by omega), show ((n : Int)).toNat = n by omega, Int.sub_add_cancel]
  rw [show (2 : Int) ^ n = ((2 ^ n : Nat) : Int) by simp]; exact Int.toNat_natCast _
theorem setsList_nat {n : Nat} (hn : n ≤ 8) (p : Int → Bool) : setsList p (n : Int) = setsB (fun s => p (s : Int)) n := by
  unfold setsList firstSets setsB
  rw [fullI_nat hn, List.filter_map]; rfl
theorem Ech.cong {p : Int} {M : Nat → Nat → Int} {r n : Nat} {S T P : Nat → Bool} (h : ∀ j, j < n → S j = T j) (hE : Ech p M r n S P) : Ech p M r n T P :=
  ⟨fun j hj hp => by rw [← h j hj]; exact hE.sub j hj hp, hE.piv, fun j hj hT => hE.low j hj (by rw [h j hj]; exact hT), hE.fit⟩
theorem setsB_take (C : Nat → Bool) (m : Nat) : ((List.range (m + 1)).filter C).map (fun (k : Nat) => (k : Int)) = ((List.range m).filter C).map (fun (k : Nat) => (k : Int)) ++ (if C m then [(m : Int)] else []) := by
  rw [List.range_succ, List.filter_append, List.map_append]
  congr 1
  cases h : C m <;> simp [h]
theorem FromMatrix.is (p r n : Int) (c : List Int) (hl : c.length ≤ maxLen) : ∃ v : Int × List Int, v.2.length ≤ 256 ∧ Ev (fun k => impl_FromMatrix.f k p r n c) v ∧ Ev (fun k => spec_FromMatrix.f k p r n c) v := by
  by_cases hM : isMat p r n c = true
  · obtain ⟨hp0, r, n, rfl, rfl, hr, hn, ha⟩ := isMat_inr hM
    have hpr := prime_of hp0
    have hp : (2 : Nat) ^ n ≤ 256 := Nat.pow_le_pow_right (n := 2) (by decide) hn
    have hp1 : 0 < (2 : Nat) ^ n := Nat.two_pow_pos n
    have hi := fun (s : Nat) (hs : s < 2 ^ n) => impl_MatrixRank.is p r n c hM hr hn hp0 ha hl s hs
    have hi2 : ∃ R : Nat → Nat, ∀ s : Nat, s < 2 ^ n → Ev (fun k => impl_MatrixRank.f k p (r : Int) (n : Int) c (s : Int)) (R s : Int) ∧ (R s = card s ↔ Ind p (mx n c) r n (bitsP s)) := by
      refine ⟨fun s => if hs : s < 2 ^ n then Classical.choose (hi s hs) else 0, fun s hs => ?_⟩
      simp only [hs, dif_pos]
      rw [card_cnt hn hs]
      exact Classical.choose_spec (hi s hs)
    obtain ⟨R, hR⟩ := hi2
    have hB : ∀ s, s < 2 ^ n → ((R s == card s) = true ↔ Ind p (mx n c) r n (bitsP s)) := fun s hs => by rw [beq_iff_eq]; exact (hR s hs).2
    have hs0 : (2 ^ n - 1 : Nat) < 256 := by omega
    obtain ⟨E, P, hS, hE, hEv⟩ := spec_l4Rank.is p hp0 r n hr hn (2 ^ n - 1) hs0 c ha
    have hE2 := Ech.cong (T := fun _ => true) (fun j hj => by rw [Nat.testBit_two_pow_sub_one]; simp [hj]) hE
    refine ⟨((n : Int), setsB (fun s => (R s == card s) && card s == cnt P n) n), setsB_length hn, ?_, ?_⟩
    ·
      unfold impl_FromMatrix.f
      refine Ev.bind (impl_IsMatrix.is p _ _ _ hl) ?_
      rw [hM]
      refine Ev.pos rfl ?_
      obtain ⟨K, hK⟩ := Ev.all (f := fun s k => impl_MatrixRank.f k p (r : Int) (n : Int) c (s : Int)) (2 ^ n) (fun s hs => (hR s hs).1)
      have hsets : Ev (fun k => impl_FromMatrix_sets.f k (n : Int) p (r : Int) (n : Int) c) (setsB (fun s => R s == card s) n) := by
        refine ⟨K, fun k hk => ?_⟩
        show impl_FromMatrix_sets.f k (n : Int) p (r : Int) (n : Int) c = _
        unfold impl_FromMatrix_sets.f
        rw [fullI_nat hn, if_pos (List.all_eq_true.2 (fun s hs => by rw [hK s (List.mem_range.1 hs) k hk]; rfl)), setsList_nat hn]
        congr 1
        refine setsB_congr (fun s hs => ?_)
        rw [hK s hs k hk, cntI_is (by omega), Bool.eq_iff_iff, beq_iff_eq, beq_iff_eq, Option.some.injEq]
        omega
      refine Ev.bind hsets (Ev.bind (v := ((n : Int), setsB (fun s => (R s == card s) && card s == cnt P n) n, true)) ?_ (Ev.of rfl))
      unfold impl_fromIndependent.f
      have h256 := setsB_length (B := fun s => R s == card s) hn
      have hmax := impl_MaximalSets.is (setsB (fun s => R s == card s) n) (by omega) (setsB_range hn)
      rw [sortSets_asc (setsB_asc _ _), mm.max hn hpr hE2 hS hB] at hmax
      refine Ev.bind hmax ?_
      have h257 := setsB_length (B := fun s => (R s == card s) && card s == cnt P n) hn
      have hmat := impl_IsMatroid.is (n : Int) (setsB (fun s => (R s == card s) && card s == cnt P n) n) (by rw [maxLen_eq]; omega)
      rw [matr_iff.2 (mm.mat hn hpr hE2 hS hB)] at hmat
      exact Ev.bind hmat (Ev.pos rfl (Ev.of rfl))
    ·
      unfold spec_FromMatrix.f
      refine Ev.bind (spec_IsMatrix.is p _ _ _ hl) ?_
      rw [hM]
      refine Ev.pos rfl (Ev.bind (v := ((n : Int), setsB (fun s => (R s == card s) && card s == cnt P n) n)) ?_ (Ev.of rfl))
      unfold spec_l4Matrix.f
      refine Ev.bind_some (spec_FullSet.is hn) (Ev.bind hEv ?_)
      have key : ∀ d s : Nat, s + d = 2 ^ n → Ev (fun k => spec_l4Matrix.l0 k p (r : Int) (n : Int) c ((cnt P n : Nat) : Int) (s : Int) (n : Int) (((List.range s).filter (fun s => (R s == card s) && card s == cnt P n)).map (fun (k : Nat) => (k : Int)))) ((n : Int), setsB (fun s => (R s == card s) && card s == cnt P n) n) := by
        intro d
        induction d with
        | zero =>
          intro s hs
          refine Ev.succ ?_
          simp only [spec_l4Matrix.l0]
          refine Ev.bind_some (spec_FullSet.is hn) (Ev.neg (by omega) (Ev.of ?_))
          have : s = 2 ^ n := by omega
          subst this; rfl
        | succ d ih =>
          intro s hs
          have hs2 : s < 2 ^ n := by omega
          have ih2 := ih (s + 1) (by omega)
          rw [setsB_take] at ih2
          have hlen : (((List.range s).filter (fun s => (R s == card s) && card s == cnt P n)).map (fun (k : Nat) => (k : Int))).length ≤ 256 := by
            rw [List.length_map]
            have := List.length_filter_le (fun s => (R s == card s) && card s == cnt P n) (List.range s)
            rw [List.length_range] at this
            omega
          obtain ⟨E1, P1, q1, q2, q3⟩ := spec_l4Rank.is p hp0 r n hr hn s (by omega) c ha
          have hrk : cnt P1 n = card s ↔ (R s == card s) = true := by
            rw [hB s hs2, card_cnt hn hs2, show cnt (bitsP s) n = cnt (fun y => s.testBit y) n from rfl, q2.rank hpr, ← q1.ind]; exact Iff.rfl
          refine Ev.succ ?_
          simp only [spec_l4Matrix.l0]
          refine Ev.bind_some (spec_FullSet.is hn) (Ev.pos (by omega) (Ev.bind (spec_CountOf.is (by omega)) ?_))
          rw [wnext (by omega)]
          by_cases h1 : card s = cnt P n
          · refine Ev.pos (by omega) (Ev.bind q3 ?_)
            rw [h1] at hrk
            by_cases h2 : cnt P1 n = cnt P n
            · refine Ev.pos (by omega) (Ev.pos (by omega) ?_)
              have h3 := hrk.1 h2
              rw [h1] at ih2
              simp only [h3, Bool.true_and, beq_self_eq_true, if_true] at ih2
              exact ih2
            · refine Ev.neg (by omega) ?_
              have h3 : (R s == cnt P n) = false := by
                rw [Bool.eq_false_iff]; exact fun h => h2 (hrk.2 h)
              rw [h1] at ih2
              simp only [h3, Bool.false_and, Bool.false_eq_true, if_false, List.append_nil] at ih2
              exact ih2
          · refine Ev.neg (by omega) ?_
            have h3 : (card s == cnt P n) = false := by simp [h1]
            simp only [h3, Bool.and_false, Bool.false_eq_true, if_false, List.append_nil] at ih2
            exact ih2
      have h := key (2 ^ n) 0 (by omega)
      exact h
  · have hM : isMat p r n c = false := by simpa using hM
    refine ⟨(0, []), by simp, ?_, ?_⟩
    · unfold impl_FromMatrix.f
      refine Ev.bind (impl_IsMatrix.is p r n c hl) ?_
      rw [hM]
      exact Ev.neg (by decide) (Ev.of rfl)
    · unfold spec_FromMatrix.f
      refine Ev.bind (spec_IsMatrix.is p r n c hl) ?_
      rw [hM]
      exact Ev.neg (by decide) (Ev.of rfl)
end Go.Proofs.Ytbhckhblonkajaa.Q
namespace Go.Proofs.Ytbhckhblonkajaa.Q
open Go.RowKit Go.Proofs.YtbhckhblonkajaaW.PrintWords Go.Proofs.YtbhckhblonkajaaW.PrintLast Go.Proofs.YtbhckhblonkajaaW.PrintMore
theorem slices_Contains.is (l : List Int) (x : Int) (hl : l.length ≤ maxLen) : Ev (fun k => impl_HasSet.f k l x) (hasI l x) := by
  have hm := maxLen_eq
  have key : ∀ d i, i + d = l.length → ∃ v : Int, (v ≥ 0 ↔ ∃ j, i ≤ j ∧ j < l.length ∧ rd l (j : Int) = x) ∧ Ev (fun k => slices_Index_int_int.l0 k l x (l.length : Int) (i : Int)) v := by
    intro d
    induction d with
    | zero =>
      intro i hi
      refine ⟨-1, ⟨fun h => absurd h (by decide), fun ⟨j, h1, h2, _⟩ => by omega⟩, Ev.succ ?_⟩
      simp only [slices_Index_int_int.l0]
      exact Ev.neg (by omega) (Ev.of rfl)
    | succ d ih =>
      intro i hi
      obtain ⟨v, h1, h2⟩ := ih (i + 1) (by omega)
      by_cases h : rd l (i : Int) = x
      · refine ⟨(i : Int), ⟨fun _ => ⟨i, Nat.le_refl _, by omega, h⟩, fun _ => by omega⟩, Ev.succ ?_⟩
        simp only [slices_Index_int_int.l0]
        first
          | exact Ev.pos (by omega) (Ev.pos (by omega) (Ev.pos (by omega) (Ev.pos h (Ev.of rfl))))
          | exact Ev.pos (by omega) (Ev.pos (by omega) (Ev.pos (by omega) (Ev.pos h.symm (Ev.of rfl))))
      · refine ⟨v, ?_, Ev.succ ?_⟩
        · rw [h1]
          constructor
          · rintro ⟨j, a, b, c⟩; exact ⟨j, by omega, b, c⟩
          · rintro ⟨j, a, b, c⟩
            by_cases e : j = i
            · subst e; exact absurd c h
            · exact ⟨j, by omega, b, c⟩
        · simp only [slices_Index_int_int.l0]
          first
            | refine Ev.pos (by omega) (Ev.pos (by omega) (Ev.pos (by omega) (Ev.neg h ?_)))
            | refine Ev.pos (by omega) (Ev.pos (by omega) (Ev.pos (by omega) (Ev.neg (fun e => h e.symm) ?_)))
          rw [wnext (by omega)]; exact h2
  obtain ⟨v, h1, h2⟩ := key l.length 0 (by omega)
  unfold impl_HasSet.f
  refine Ev.bind (v := hasI l x) ?_ (Ev.of rfl)
  unfold slices_Contains_int_int.f
  refine Ev.bind (v := v) (by unfold slices_Index_int_int.f; exact h2) (Ev.of ?_)
  congr 1
  rw [Bool.eq_iff_iff, decide_eq_true_iff, h1, hasI_iff]
  exact ⟨fun ⟨j, _, a, b⟩ => ⟨j, a, b⟩, fun ⟨j, a, b⟩ => ⟨j, Nat.zero_le _, a, b⟩⟩
theorem shl_pow {f : Nat} (hf : f < 8) : shl .i64 1 (f : Int) = ((2 ^ f : Nat) : Int) := by
  have h : ∀ f : Fin 8, shl .i64 1 (f.val : Int) = ((2 ^ f.val : Nat) : Int) := by decide +kernel
  exact h ⟨f, hf⟩
theorem pow_lt8 {f : Nat} (hf : f < 8) : 2 ^ f < 256 := Nat.pow_lt_pow_right (n := 8) (by decide) hf
theorem add_pow {o f : Nat} (ho : o < 256) (hf : f < 8) (h : o.testBit f = false) : wrap64 ((o : Int) + shl .i64 1 (IntKind.u64.wrap (f : Int))) = ((o ||| 2 ^ f : Nat) : Int) := by
  have h2 : ∀ (o : Fin 256) (f : Fin 8), o.val.testBit f.val = false → wrap64 ((o.val : Int) + shl .i64 1 (IntKind.u64.wrap (f.val : Int))) = ((o.val ||| 2 ^ f.val : Nat) : Int) := by decide +kernel
  exact h2 ⟨o, ho⟩ ⟨f, hf⟩ h
theorem shl_pow2 {f : Nat} (hf : f < 8) : shl .i64 1 (IntKind.u64.wrap (f : Int)) = ((2 ^ f : Nat) : Int) := by
  have h : ∀ f : Fin 8, shl .i64 1 (IntKind.u64.wrap (f.val : Int)) = ((2 ^ f.val : Nat) : Int) := by decide +kernel
  exact h ⟨f, hf⟩
theorem impl_circuit.is (n : Int) (l : List Int) (hl : l.length ≤ maxLen) (s e : Nat) (hs : s < 256) (he : e < 8) (h0 : s.testBit e = false) :
    ∃ c : Nat, c < 256 ∧ (∀ b, s.testBit b = true → c.testBit b = hasI l (swp s b e)) ∧ Ev (fun k => impl_circuit.f k n l (s : Int) (e : Int)) (c : Int) := by
  have hm := maxLen_eq
  have h8 := els_length (s := s)
  have key : ∀ d i, i + d = (els s).length → ∀ o : Nat, o < 256 → (∀ b, s.testBit b = true → (o.testBit b = true ↔ ∃ t, t < i ∧ rd (els s) (t : Int) = (b : Int) ∧ hasI l (swp s b e) = true)) →
      ∃ c : Nat, c < 256 ∧ (∀ b, s.testBit b = true → c.testBit b = hasI l (swp s b e)) ∧ Ev (fun k => impl_circuit.l0 k (s : Int) (e : Int) (o : Int) (els s) ((els s).length : Int) (i : Int) n l) (c : Int) := by
    intro d
    induction d with
    | zero =>
      intro i hi o ho hb
      refine ⟨o, ho, fun b hsb => ?_, Ev.succ ?_⟩
      · rw [Bool.eq_iff_iff, hb b hsb]
        constructor
        · rintro ⟨_, _, _, h⟩; exact h
        · intro h
          obtain ⟨t, ht, hte⟩ := List.mem_iff_getElem.1 (mem_els.2 ⟨b, bit_lt (n := 8) hs hsb, hsb, rfl⟩)
          exact ⟨t, by omega, by rw [rd_nat ht]; exact hte, h⟩
      · simp only [impl_circuit.l0]
        exact Ev.neg (by omega) (Ev.of rfl)
    | succ d ih =>
      intro i hi o ho hb
      have hil : i < (els s).length := by omega
      obtain ⟨x, hx8, hxs, hxe⟩ := mem_els.1 (rd_mem (l := els s) (i := i) hil)
      have hset : Go.bits .or .i64 (Go.bits .andNot .i64 (s : Int) (shl .i64 1 (x : Int))) (shl .i64 1 (e : Int)) = (swp s x e : Int) := by
        rw [xch_impl hs hx8 he hxs h0, xch_swp hs hx8 he hxs h0]
      have hput : Go.bits .or .i64 (o : Int) (shl .i64 1 (x : Int)) = ((o ||| 2 ^ x : Nat) : Int) := by
        rw [shl_pow hx8]; exact bits_or ho (pow_lt8 hx8)
      have enter : ∀ v, (if hasI l (swp s x e) = true then Ev (fun k => impl_circuit.l0 k (s : Int) (e : Int) ((o ||| 2 ^ x : Nat) : Int) (els s) ((els s).length : Int) ((i + 1 : Nat) : Int) n l) v else Ev (fun k => impl_circuit.l0 k (s : Int) (e : Int) (o : Int) (els s) ((els s).length : Int) ((i + 1 : Nat) : Int) n l) v) →
          Ev (fun k => impl_circuit.l0 k (s : Int) (e : Int) (o : Int) (els s) ((els s).length : Int) (i : Int) n l) v := fun v hv => by
        refine Ev.succ ?_
        simp only [impl_circuit.l0]
        refine Ev.pos (by omega) (Ev.pos (by omega) (Ev.pos (by omega) ?_))
        rw [hxe]
        refine Ev.pos (by omega) (Ev.pos (by omega) ?_)
        rw [hset, hput, wnext (by omega)]
        refine Ev.bind (slices_Contains.is l _ hl) ?_
        by_cases h : hasI l (swp s x e) = true
        · rw [if_pos h] at hv; exact Ev.pos h hv
        · rw [if_neg h] at hv; exact Ev.neg h hv
      by_cases h : hasI l (swp s x e) = true
      · obtain ⟨c, c1, c2, c3⟩ := ih (i + 1) (by omega) (o ||| 2 ^ x) (or_lt ho (pow_lt8 hx8)) (fun b hsb => by
          rw [or_bit, Bool.or_eq_true, hb b hsb, beq_iff_eq]
          constructor
          · rintro (⟨t, a1, a2, a3⟩ | rfl)
            · exact ⟨t, by omega, a2, a3⟩
            · exact ⟨i, by omega, hxe, h⟩
          · rintro ⟨t, a1, a2, a3⟩
            by_cases et : t = i
            · subst et; right; omega
            · left; exact ⟨t, by omega, a2, a3⟩)
        exact ⟨c, c1, c2, enter _ (by rw [if_pos h]; exact c3)⟩
      · obtain ⟨c, c1, c2, c3⟩ := ih (i + 1) (by omega) o ho (fun b hsb => by
          rw [hb b hsb]
          constructor
          · rintro ⟨t, a1, a2, a3⟩
            exact ⟨t, by omega, a2, a3⟩
          · rintro ⟨t, a1, a2, a3⟩
            by_cases et : t = i
            · subst et
              have : b = x := by omega
              subst this
              exact absurd a3 h
            · exact ⟨t, by omega, a2, a3⟩)
        exact ⟨c, c1, c2, enter _ (by rw [if_neg h]; exact c3)⟩
  obtain ⟨c, c1, c2, c3⟩ := key (els s).length 0 (by omega) (2 ^ e) (pow_lt8 he) (fun b hsb => by
    rw [Nat.testBit_two_pow]
    constructor
    · intro h
      have : e = b := by simpa using h
      subst this
      rw [h0] at hsb; exact absurd hsb (by decide)
    · rintro ⟨t, ht, _⟩; omega)
  refine ⟨c, c1, c2, ?_⟩
  unfold impl_circuit.f
  refine Ev.pos (by omega) (Ev.bind (impl_ElementsOf.is hs) ?_)
  rw [shl_pow he]; exact c3
theorem spec_CircuitOf.is (n : Nat) (l : List Int) (hl : l.length ≤ maxLen) (hM : Mat n l) (s e : Nat) (hsl : (s : Int) ∈ l) (he : e < n) (h0 : s.testBit e = false) :
    ∃ c : Nat, c < 256 ∧ (∀ b, s.testBit b = true → c.testBit b = hasI l (swp s b e)) ∧ Ev (fun k => spec_CircuitOf.f k (n : Int) l (s : Int) (e : Int)) (c : Int) := by
  have hm := maxLen_eq
  have hn := hM.n8
  have hp : (2 : Nat) ^ n ≤ 256 := Nat.pow_le_pow_right (n := 2) (by decide) hn
  obtain ⟨s2, hs2, es⟩ := hM.sets _ hsl
  obtain rfl : s = s2 := by omega
  have hs : s < 256 := by omega
  have key : ∀ d i, i + d = n → ∀ o : Nat, o < 256 → (∀ b, s.testBit b = true → (o.testBit b = true ↔ b < i ∧ hasI l (swp s b e) = true)) →
      ∃ c : Nat, c < 256 ∧ (∀ b, s.testBit b = true → c.testBit b = hasI l (swp s b e)) ∧ Ev (fun k => spec_CircuitOf.l0 k (s : Int) (e : Int) (o : Int) (i : Int) (n : Int) l) (c : Int) := by
    intro d
    induction d with
    | zero =>
      intro i hi o ho hb
      refine ⟨o, ho, fun b hsb => ?_, Ev.succ ?_⟩
      · rw [Bool.eq_iff_iff, hb b hsb]
        exact ⟨fun h => h.2, fun h => ⟨by have := bit_lt hs2 hsb; omega, h⟩⟩
      · simp only [spec_CircuitOf.l0]
        exact Ev.neg (by omega) (Ev.of rfl)
    | succ d ih =>
      intro i hi o ho hb
      have hi8 : i < 8 := by omega
      have hl2 := spec_l2Has.is (s := (s : Int)) (e := (i : Int)) (by omega) (by omega) (by omega) (by omega)
      rw [has_nat] at hl2
      by_cases hsi : s.testBit i = true
      · have hset : wrap64 (wrap64 ((s : Int) - shl .i64 1 (IntKind.u64.wrap (i : Int))) + shl .i64 1 (IntKind.u64.wrap (e : Int))) = (swp s i e : Int) := by
          rw [xch_spec (by omega) (by omega) (by omega) (by omega) (by omega) (by omega), xch_swp hs hi8 (by omega) hsi h0]
        have hoi : o.testBit i = false := by
          rw [Bool.eq_false_iff]
          intro h
          have := ((hb i hsi).1 h).1
          omega
        have enter : ∀ v, (if hasI l (swp s i e) = true then Ev (fun k => spec_CircuitOf.l0 k (s : Int) (e : Int) ((o ||| 2 ^ i : Nat) : Int) ((i + 1 : Nat) : Int) (n : Int) l) v else Ev (fun k => spec_CircuitOf.l0 k (s : Int) (e : Int) (o : Int) ((i + 1 : Nat) : Int) (n : Int) l) v) →
            Ev (fun k => spec_CircuitOf.l0 k (s : Int) (e : Int) (o : Int) (i : Int) (n : Int) l) v := fun v hv => by
          refine Ev.succ ?_
          simp only [spec_CircuitOf.l0]
          refine Ev.pos (by omega) (Ev.bind_some hl2 (Ev.pos hsi (Ev.pos (u64_nonneg _) (Ev.pos (u64_nonneg _) ?_))))
          rw [hset, add_pow ho hi8 hoi, wnext (by omega)]
          refine Ev.bind (spec_HasSet.is l _ hl) ?_
          by_cases h : hasI l (swp s i e) = true
          · rw [if_pos h] at hv; exact Ev.pos h hv
          · rw [if_neg h] at hv; exact Ev.neg h hv
        by_cases h : hasI l (swp s i e) = true
        · obtain ⟨c, c1, c2, c3⟩ := ih (i + 1) (by omega) (o ||| 2 ^ i) (or_lt ho (pow_lt8 hi8)) (fun b hsb => by
            rw [or_bit, Bool.or_eq_true, hb b hsb, beq_iff_eq]
            constructor
            · rintro (⟨a1, a2⟩ | rfl)
              · exact ⟨by omega, a2⟩
              · exact ⟨by omega, h⟩
            · rintro ⟨a1, a2⟩
              by_cases et : b = i
              · right; exact et
              · left; exact ⟨by omega, a2⟩)
          exact ⟨c, c1, c2, enter _ (by rw [if_pos h]; exact c3)⟩
        · obtain ⟨c, c1, c2, c3⟩ := ih (i + 1) (by omega) o ho (fun b hsb => by
            rw [hb b hsb]
            constructor
            · rintro ⟨a1, a2⟩; exact ⟨by omega, a2⟩
            · rintro ⟨a1, a2⟩
              by_cases et : b = i
              · subst et; exact absurd a2 h
              · exact ⟨by omega, a2⟩)
          exact ⟨c, c1, c2, enter _ (by rw [if_neg h]; exact c3)⟩
      · obtain ⟨c, c1, c2, c3⟩ := ih (i + 1) (by omega) o ho (fun b hsb => by
          rw [hb b hsb]
          constructor
          · rintro ⟨a1, a2⟩; exact ⟨by omega, a2⟩
          · rintro ⟨a1, a2⟩
            by_cases et : b = i
            · subst et; exact absurd hsb hsi
            · exact ⟨by omega, a2⟩)
        refine ⟨c, c1, c2, Ev.succ ?_⟩
        simp only [spec_CircuitOf.l0]
        refine Ev.pos (by omega) (Ev.bind_some hl2 (Ev.neg hsi ?_))
        rw [wnext (by omega)]; exact c3
  obtain ⟨c, c1, c2, c3⟩ := key n 0 (by omega) (2 ^ e) (pow_lt8 (by omega)) (fun b hsb => by
    rw [Nat.testBit_two_pow]
    constructor
    · intro h
      have : e = b := by simpa using h
      subst this
      rw [h0] at hsb; exact absurd hsb (by decide)
    · rintro ⟨h, _⟩; omega)
  refine ⟨c, c1, c2, ?_⟩
  have hl2 := spec_l2Has.is (s := (s : Int)) (e := (e : Int)) (by omega) (by omega) (by omega) (by omega)
  rw [has_nat, h0] at hl2
  have hmat := spec_IsMatroid.is (n : Int) l hl
  rw [matr_iff.2 hM] at hmat
  have hin := spec_l1In.is (e : Int) 0 (wrap64 ((n : Int) - 1))
  rw [w64 (by omega) (by omega), show (decide ((0 : Int) ≤ (e : Int)) && decide ((e : Int) ≤ (n : Int) - 1)) = true by simp; omega] at hin
  unfold spec_CircuitOf.f
  refine Ev.bind hmat (Ev.pos rfl (Ev.bind (spec_HasSet.is l _ hl) (Ev.pos (hasI_mem.2 hsl) ?_)))
  rw [w64 (by omega) (by omega)]
  refine Ev.bind_some hin (Ev.pos rfl (Ev.bind_some hl2 (Ev.succ ?_)))
  simp only [spec_CircuitOf.j0]
  refine Ev.neg (by decide) (Ev.pos (u64_nonneg _) ?_)
  rw [shl_pow2 (by omega)]; exact c3
def agree (os : List Nat) (X X' : List Int) : Prop := X.length = X'.length ∧ ∀ i, i ∉ os → X[i]? = X'[i]?
theorem agree.refl (os : List Nat) (X : List Int) : agree os X X := ⟨rfl, fun _ _ => rfl⟩
theorem agree.trans {os : List Nat} {X Y Z : List Int} (h : agree os X Y) (h2 : agree os Y Z) : agree os X Z := ⟨h.1.trans h2.1, fun i hi => (h.2 i hi).trans (h2.2 i hi)⟩
theorem agree.set {o : Nat} {os : List Nat} {X X' : List Int} (h : agree (o :: os) X X') (c : Int) : agree os (X.set o c) (X'.set o c) := by
  refine ⟨by rw [List.length_set, List.length_set]; exact h.1, fun i hi => ?_⟩
  rw [List.getElem?_set, List.getElem?_set]
  by_cases e : o = i
  · rw [if_pos e, if_pos e, h.1]
  · rw [if_neg e, if_neg e]
    refine h.2 i (fun hm => ?_)
    rcases List.mem_cons.1 hm with h1 | h1
    · exact e h1.symm
    · exact hi h1
theorem agree.of_set {o : Nat} {os : List Nat} {X X' : List Int} {c : Int} (h : agree os (X.set o c) X') : agree (o :: os) X X' := by
  refine ⟨by rw [← h.1, List.length_set], fun i hi => ?_⟩
  rw [← h.2 i (fun hm => hi (List.mem_cons_of_mem _ hm)), List.getElem?_set, if_neg (fun e => hi (by rw [e]; exact List.mem_cons_self))]
def srchV (g : List Int → Option (List Int)) (o : Nat) (X : List Int) : Nat → Nat → Option (List Int)
  | _, 0 => none
  | c, d + 1 => match g (X.set o (c : Int)) with
    | some Y => some Y
    | none => srchV g o X (c + 1) d
def srch (p : Nat) (T : List Int → Bool) : List Nat → List Int → Option (List Int)
  | [], X => if T X then some X else none
  | o :: os, X => srchV (srch p T os) o X 1 (p - 1)
theorem srch_agree (p : Nat) (T : List Int → Bool) : ∀ os X X', agree os X X' → srch p T os X = srch p T os X' := by
  intro os
  induction os with
  | nil =>
    intro X X' h
    have : X = X' := List.ext_getElem? (fun i => h.2 i (by simp))
    rw [this]
  | cons o os ih =>
    intro X X' h
    have key : ∀ d c, srchV (srch p T os) o X c d = srchV (srch p T os) o X' c d := by
      intro d
      induction d with
      | zero => intro c; rfl
      | succ d ihd =>
        intro c
        simp only [srchV]
        rw [ih _ _ (h.set (c : Int)), ihd (c + 1)]
    exact key _ _
theorem srch_length (p : Nat) (T : List Int → Bool) : ∀ os X Y, srch p T os X = some Y → Y.length = X.length := by
  intro os
  induction os with
  | nil =>
    intro X Y h
    simp only [srch] at h
    split at h
    · rw [← Option.some.inj h]
    · cases h
  | cons o os ih =>
    intro X Y h
    have key : ∀ d c, srchV (srch p T os) o X c d = some Y → Y.length = X.length := by
      intro d
      induction d with
      | zero => intro c h; simp [srchV] at h
      | succ d ihd =>
        intro c h
        simp only [srchV] at h
        cases hg : srch p T os (X.set o (c : Int)) with
        | some Z =>
          rw [hg] at h
          have e : Z = Y := by simpa using h
          rw [← e, ih _ _ hg, List.length_set]
        | none =>
          rw [hg] at h
          exact ihd (c + 1) h
    exact key _ _ h
def nxtR (p : Nat) : List Nat → List Int → Bool × List Int
  | [], X => (false, X)
  | o :: rs, X => if rd X (o : Int) < (p : Int) - 1 then (true, X.set o (rd X (o : Int) + 1)) else nxtR p rs (X.set o 1)
theorem set_same {X : List Int} {o : Nat} {c : Int} (ho : o < X.length) (h : rd X (o : Int) = c) : X.set o c = X := by
  rw [rd_nat ho] at h
  rw [← h]
  exact List.set_getElem_self ho
theorem odo {p : Nat} (hp : 2 ≤ p) (T : List Int → Bool) (L : List Int → Option (List Int) → Prop) (Inv : List Int → Prop) (R : List Nat) (hR : R.Nodup)
    (hlen : ∀ X, Inv X → ∀ o ∈ R, o < X.length)
    (hI : ∀ X o (c : Nat), Inv X → o ∈ R → 1 ≤ c → c < p → Inv (X.set o (c : Int)))
    (hT : ∀ X, Inv X → T X = true → L X (some X))
    (hN : ∀ X v, Inv X → T X = false → ((nxtR p R X).1 = true → L (nxtR p R X).2 v) → ((nxtR p R X).1 = false → v = none) → L X v) :
    ∀ os rs, os.reverse ++ rs = R → ∀ X, Inv X → (∀ o : Nat, o ∈ os → rd X (o : Int) = 1) →
      (∀ Y, srch p T os X = some Y → L X (some Y)) ∧ (srch p T os X = none → ∀ v, ((nxtR p rs X).1 = true → L (nxtR p rs X).2 v) → ((nxtR p rs X).1 = false → v = none) → L X v) := by
  intro os
  induction os with
  | nil =>
    intro rs hrs X hX h1
    simp only [List.reverse_nil, List.nil_append] at hrs
    subst hrs
    simp only [srch]
    cases hTX : T X
    · refine ⟨fun Y h => by simp at h, fun _ v a b => hN X v hX hTX a b⟩
    · refine ⟨fun Y h => ?_, fun h => by simp at h⟩
      have : X = Y := by simpa using h
      rw [← this]; exact hT X hX hTX
  | cons o os ih =>
    intro rs hrs X hX h1
    have hrs2 : os.reverse ++ (o :: rs) = R := by rw [← hrs]; simp
    have hoR : o ∈ R := by rw [← hrs2]; simp
    have hnot : o ∉ os := fun hm => by
      rw [← hrs2] at hR
      have := (List.nodup_append.1 hR).2.2 o (List.mem_reverse.2 hm) o List.mem_cons_self
      exact this rfl
    have inner : ∀ d c, c + (d + 1) = p → 1 ≤ c → ∀ X, Inv X → rd X (o : Int) = (c : Int) → (∀ q ∈ os, rd X (q : Int) = 1) →
        (∀ Y, srchV (srch p T os) o X c (d + 1) = some Y → L X (some Y)) ∧
        (srchV (srch p T os) o X c (d + 1) = none → ∀ v, ((nxtR p rs (X.set o 1)).1 = true → L (nxtR p rs (X.set o 1)).2 v) → ((nxtR p rs (X.set o 1)).1 = false → v = none) → L X v) := by
      intro d
      induction d with
      | zero =>
        intro c hc hc1 X hX hXo hXs
        have hol := hlen X hX o hoR
        obtain ⟨a, b⟩ := ih (o :: rs) hrs2 X hX hXs
        have e : nxtR p (o :: rs) X = nxtR p rs (X.set o 1) := by
          simp only [nxtR]
          rw [if_neg (by omega)]
        rw [e] at b
        simp only [srchV]
        rw [set_same hol hXo]
        refine ⟨fun Y h => ?_, fun h v => ?_⟩
        · cases hg : srch p T os X with
          | none => rw [hg] at h; simp at h
          | some Z => rw [hg] at h; rw [← h]; exact a Z hg
        · cases hg : srch p T os X with
          | none => exact b hg v
          | some Z => rw [hg] at h; simp at h
      | succ d ihd =>
        intro c hc hc1 X hX hXo hXs
        have hol := hlen X hX o hoR
        obtain ⟨a, b⟩ := ih (o :: rs) hrs2 X hX hXs
        have e : nxtR p (o :: rs) X = (true, X.set o ((c + 1 : Nat) : Int)) := by
          simp only [nxtR]
          rw [if_pos (by omega), hXo]; rfl
        rw [e] at b
        have hX2 := hI X o (c + 1) hX hoR (by omega) (by omega)
        obtain ⟨a2, b2⟩ := ihd (c + 1) (by omega) (by omega) (X.set o ((c + 1 : Nat) : Int)) hX2 (by rw [rd_set hol hol, if_pos rfl]) (fun q hq => by
          have hqR : q ∈ R := by rw [← hrs2]; simp [hq]
          rw [rd_set hol (hlen X hX q hqR), if_neg (fun (e2 : q = o) => hnot (by rw [← e2]; exact hq))]; exact hXs q hq)
        have ev : ∀ k c', srchV (srch p T os) o (X.set o ((c + 1 : Nat) : Int)) c' k = srchV (srch p T os) o X c' k := by
          intro k
          induction k with
          | zero => intro c'; rfl
          | succ k ihk =>
            intro c'
            simp only [srchV]
            rw [List.set_set, ihk (c' + 1)]
        rw [ev] at a2 b2
        rw [List.set_set] at b2
        have es : srchV (srch p T os) o X c (d + 1 + 1) = match srch p T os (X.set o (c : Int)) with
          | some Y => some Y
          | none => srchV (srch p T os) o X (c + 1) (d + 1) := rfl
        rw [es, set_same hol hXo]
        cases hg : srch p T os X with
        | some Z =>
          refine ⟨fun Y h => ?_, fun h => by simp at h⟩
          rw [← h]; exact a Z hg
        | none =>
          refine ⟨fun Y h => ?_, fun h v h3 h4 => ?_⟩
          · exact b hg _ (fun _ => a2 Y h) (fun h => by simp at h)
          · exact b hg v (fun _ => b2 h v h3 h4) (fun h => by simp at h)
    have hol := hlen X hX o hoR
    have hXo : rd X (o : Int) = 1 := h1 o List.mem_cons_self
    obtain ⟨a, b⟩ := inner (p - 2) 1 (by omega) (Nat.le_refl _) X hX hXo (fun q hq => h1 q (List.mem_cons_of_mem _ hq))
    rw [set_same hol hXo, show p - 2 + 1 = p - 1 by omega] at b
    rw [show p - 2 + 1 = p - 1 by omega] at a
    exact ⟨a, b⟩
def Serves (p r n : Int) (l : List Int) (T : List Int → Bool) : Prop := ∀ X : List Int, X.length ≤ 64 → ∃ v : Int × List Int, v.2.length ≤ 256 ∧ Ev (fun k => impl_FromMatrix.f k p r n X) v ∧ Ev (fun k => spec_FromMatrix.f k p r n X) v ∧ T X = (decide (v.1 = n) && decide (v.2 = l))
theorem serves (p r n : Int) (l : List Int) : ∃ T, Serves p r n l T := by
  refine ⟨fun X => if h : X.length ≤ maxLen then (decide ((Classical.choose (FromMatrix.is p r n X h)).1 = n) && decide ((Classical.choose (FromMatrix.is p r n X h)).2 = l)) else false, fun X hX => ?_⟩
  have h : X.length ≤ maxLen := by rw [maxLen_eq]; omega
  obtain ⟨h1, h2, h3⟩ := Classical.choose_spec (FromMatrix.is p r n X h)
  exact ⟨_, h1, h2, h3, by simp only [dif_pos h]⟩
theorem impl_fillCells.is (p : Nat) (hp : p < 100) (r n : Int) (l : List Int) (T : List Int → Bool) (hT : Serves (p : Int) r n l T) : ∀ os : List Nat, ∀ X : List Int, X.length ≤ 64 → os.length ≤ 64 → (∀ o ∈ os, o < X.length) →
    (∀ Y, srch p T os X = some Y → Ev (fun k => impl_fillCells.f k n l (p : Int) r n X (os.map (fun (x : Nat) => (x : Int)))) (true, Y)) ∧
    (srch p T os X = none → ∃ X', agree os X X' ∧ Ev (fun k => impl_fillCells.f k n l (p : Int) r n X (os.map (fun (x : Nat) => (x : Int)))) (false, X')) := by
  intro os
  induction os with
  | nil =>
    intro X hX _ _
    obtain ⟨v, h1, h2, h3, h4⟩ := hT X hX
    have hv : Ev (fun k => impl_fillCells.f k n l (p : Int) r n X (([] : List Nat).map (fun (x : Nat) => (x : Int)))) (T X, X) := by
      refine Ev.succ ?_
      simp only [impl_fillCells.f]
      refine Ev.pos rfl (Ev.bind h2 (Ev.bind (impl_EqualMatroid.is v.1 n v.2 l (by rw [maxLen_eq]; omega)) ?_))
      rw [← h4]
      exact Ev.of rfl
    simp only [srch]
    cases h : T X
    · refine ⟨fun Y hY => by simp at hY, fun _ => ⟨X, agree.refl _ _, ?_⟩⟩
      rw [h] at hv; exact hv
    · refine ⟨fun Y hY => ?_, fun hY => by simp at hY⟩
      have : X = Y := by simpa using hY
      rw [h, this] at hv
      rw [this]; exact hv
  | cons o os ih =>
    intro X hX hol ho
    have hoX : o < X.length := ho o List.mem_cons_self
    simp only [List.length_cons] at hol
    have loop : ∀ d c, c + d = p → 1 ≤ c → ∀ Z : List Int, agree (o :: os) X Z →
        (∀ Y, srchV (srch p T os) o X c d = some Y → Ev (fun k => impl_fillCells.l0 k ((o :: os).map (fun (x : Nat) => (x : Int))) (c : Int) n l (p : Int) r n Z) (true, Y)) ∧
        (srchV (srch p T os) o X c d = none → ∃ X', agree (o :: os) X X' ∧ Ev (fun k => impl_fillCells.l0 k ((o :: os).map (fun (x : Nat) => (x : Int))) (c : Int) n l (p : Int) r n Z) (false, X')) := by
      intro d
      induction d with
      | zero =>
        intro c hc _ Z hZ
        refine ⟨fun Y h => by simp [srchV] at h, fun _ => ⟨Z, hZ, Ev.succ ?_⟩⟩
        simp only [impl_fillCells.l0]
        exact Ev.neg (by omega) (Ev.of rfl)
      | succ d ihd =>
        intro c hc hc1 Z hZ
        have hZl := hZ.1
        obtain ⟨a, b⟩ := ih (Z.set o (c : Int)) (by rw [List.length_set, ← hZl]; exact hX) (by omega) (fun q hq => by rw [List.length_set, ← hZl]; exact ho q (List.mem_cons_of_mem _ hq))
        have e : srch p T os (Z.set o (c : Int)) = srch p T os (X.set o (c : Int)) := (srch_agree p T os _ _ (hZ.set (c : Int))).symm
        rw [e] at a b
        have enter : ∀ v w, Ev (fun k => impl_fillCells.f k n l (p : Int) r n (Z.set o (c : Int)) (os.map (fun (x : Nat) => (x : Int)))) v → (v.1 = true → w = (true, v.2)) → (v.1 = false → Ev (fun k => impl_fillCells.l0 k ((o :: os).map (fun (x : Nat) => (x : Int))) ((c + 1 : Nat) : Int) n l (p : Int) r n v.2) w) →
            Ev (fun k => impl_fillCells.l0 k ((o :: os).map (fun (x : Nat) => (x : Int))) (c : Int) n l (p : Int) r n Z) w := fun v w hv h1 h2 => by
          have er : rd ((o :: os).map (fun (x : Nat) => (x : Int))) 0 = (o : Int) := rfl
          have el : (((o :: os).map (fun (x : Nat) => (x : Int))).length : Int) = (os.length : Int) + 1 := by simp
          refine Ev.succ ?_
          simp only [impl_fillCells.l0]
          rw [er, el]
          refine Ev.pos (by omega) (Ev.pos (by omega) (Ev.pos (by omega) (Ev.pos (by omega) (Ev.pos (by omega) (Ev.bind (v := v) hv ?_)))))
          by_cases h : v.1 = true
          · exact Ev.pos h (Ev.of (by rw [h1 h]))
          · refine Ev.neg h ?_
            rw [wnext (by omega)]
            exact h2 (by simpa using h)
        simp only [srchV]
        cases hg : srch p T os (X.set o (c : Int)) with
        | some W =>
          refine ⟨fun Y h => ?_, fun h => by simp at h⟩
          have : W = Y := by simpa using h
          subst this
          exact enter _ _ (a W hg) (fun _ => rfl) (fun h => by simp at h)
        | none =>
          obtain ⟨X2, g1, g2⟩ := b hg
          have g3 : agree (o :: os) X X2 := hZ.trans (agree.of_set g1)
          obtain ⟨a2, b2⟩ := ihd (c + 1) (by omega) (by omega) X2 g3
          refine ⟨fun Y h => enter _ _ g2 (fun h => by simp at h) (fun _ => a2 Y h), fun h => ?_⟩
          obtain ⟨X3, k1, k2⟩ := b2 h
          exact ⟨X3, k1, enter _ _ g2 (fun h => by simp at h) (fun _ => k2)⟩
    have hne : ¬ (((o :: os).map (fun (x : Nat) => (x : Int))).length : Int) = 0 := by simp; omega
    by_cases hp1 : 1 ≤ p
    · obtain ⟨a, b⟩ := loop (p - 1) 1 (by omega) (Nat.le_refl _) X (agree.refl _ _)
      refine ⟨fun Y h => Ev.succ ?_, fun h => ?_⟩
      · simp only [impl_fillCells.f]
        exact Ev.neg hne (a Y h)
      · obtain ⟨X', g1, g2⟩ := b h
        refine ⟨X', g1, Ev.succ ?_⟩
        simp only [impl_fillCells.f]
        exact Ev.neg hne g2
    · have hp0 : p = 0 := by omega
      subst hp0
      refine ⟨fun Y h => by simp [srch, srchV] at h, fun h => ⟨X, agree.refl _ _, Ev.succ ?_⟩⟩
      simp only [impl_fillCells.f]
      refine Ev.neg hne (Ev.succ ?_)
      simp only [impl_fillCells.l0]
      exact Ev.neg (by omega) (Ev.of rfl)
structure CInv (p s n len : Nat) (isO : Nat → Bool) (X : List Int) : Prop where
  ln : X.length = len
  op : ∀ k, k < len → isO k = true → s.testBit (k % n) = false ∧ 1 ≤ rd X (k : Int) ∧ rd X (k : Int) < (p : Int)
  cl : ∀ k, k < len → isO k = false → s.testBit (k % n) = true ∨ rd X (k : Int) = 0
theorem CInv.set {p s n len : Nat} {isO : Nat → Bool} {X : List Int} (h : CInv p s n len isO X) {o c : Nat} (ho : o < len) (hO : isO o = true) (h1 : 1 ≤ c) (h2 : c < p) : CInv p s n len isO (X.set o (c : Int)) := by
  have hl := h.ln
  refine ⟨by rw [List.length_set]; exact h.ln, fun k hk hk2 => ?_, fun k hk hk2 => ?_⟩
  · rw [rd_set (by omega) (by omega)]
    refine ⟨(h.op k hk hk2).1, ?_⟩
    split
    · omega
    · exact (h.op k hk hk2).2
  · rw [rd_set (by omega) (by omega), if_neg (fun e => by rw [e, hO] at hk2; exact absurd hk2 (by decide))]
    exact h.cl k hk hk2
theorem spec_l26Next.loop (p s n len : Nat) (hp : 2 ≤ p ∧ p < 100) (hs : s < 256) (hn : n ≤ 8) (hlen : len ≤ 64) (hn0 : 0 < len → 0 < n) (isO : Nat → Bool) (r : Int) : ∀ m, m ≤ len → ∀ X, CInv p s n len isO X →
    Ev (fun k => spec_l26Next.l0 k (s : Int) ((m : Int) - 1) (p : Int) r (n : Int) X) (nxtR p ((List.range m).filter isO).reverse X) := by
  intro m
  induction m with
  | zero =>
    intro _ X hX
    refine Ev.succ ?_
    simp only [spec_l26Next.l0]
    exact Ev.neg (by omega) (Ev.of rfl)
  | succ m ih =>
    intro hm X hX
    have hml : m < len := by omega
    have hn1 := hn0 (by omega)
    have hmn : m % n < n := Nat.mod_lt _ hn1
    have hXl := hX.ln
    have et : Int.tmod ((m + 1 : Nat) - 1 : Int) (n : Int) = ((m % n : Nat) : Int) := by
      rw [show ((m + 1 : Nat) : Int) - 1 = (m : Int) by omega]
      exact (Int.ofNat_tmod m n).symm
    have hl2 := spec_l2Has.is (s := (s : Int)) (e := ((m % n : Nat) : Int)) (by omega) (by omega) (by omega) (by omega)
    rw [has_nat] at hl2
    have em : ((m + 1 : Nat) : Int) - 1 = (m : Int) := by omega
    have ew : wrap64 ((m : Int) - 1) = (m : Int) - 1 := w64 (by omega) (by omega)
    have er : (List.range (m + 1)).filter isO = (List.range m).filter isO ++ (if isO m then [m] else []) := by
      rw [List.range_succ, List.filter_append]
      congr 1
      cases h : isO m <;> simp [h]
    refine Ev.succ ?_
    simp only [spec_l26Next.l0]
    rw [et, em]
    refine Ev.pos (by omega) (Ev.neg (by omega) (Ev.bind_some hl2 ?_))
    by_cases hb : s.testBit (m % n) = true
    · have hO : isO m = false := by
        rw [Bool.eq_false_iff]
        intro h
        have := (hX.op m hml h).1
        rw [hb] at this
        exact absurd this (by decide)
      refine Ev.pos hb (Ev.succ ?_)
      simp only [spec_l26Next.j1]
      refine Ev.pos trivial ?_
      rw [ew, er, hO]
      simp only [Bool.false_eq_true, if_false, List.append_nil]
      exact ih (by omega) X hX
    · refine Ev.neg hb (Ev.pos (by omega) (Ev.pos (by omega) (Ev.succ ?_)))
      simp only [spec_l26Next.j1]
      by_cases h0 : rd X (m : Int) = 0
      · have hO : isO m = false := by
          rw [Bool.eq_false_iff]
          intro h
          have := (hX.op m hml h).2.1
          omega
        refine Ev.pos (by simp [h0]) ?_
        rw [ew, er, hO]
        simp only [Bool.false_eq_true, if_false, List.append_nil]
        exact ih (by omega) X hX
      · have hO : isO m = true := by
          cases h : isO m
          · rcases hX.cl m hml h with h1 | h1
            · exact absurd h1 hb
            · exact absurd h1 h0
          · rfl
        have hop := hX.op m hml hO
        refine Ev.neg (by simp [h0]) (Ev.pos (by omega) (Ev.pos (by omega) ?_))
        rw [er, hO]
        simp only [if_true, List.reverse_append, List.reverse_cons, List.reverse_nil, List.nil_append, List.singleton_append, nxtR]
        rw [w64 (n := (p : Int) - 1) (by omega) (by omega)]
        by_cases hlt : rd X (m : Int) < (p : Int) - 1
        · rw [if_pos hlt]
          refine Ev.pos hlt (Ev.of ?_)
          rw [w64 (by omega) (by omega)]; rfl
        · rw [if_neg hlt]
          refine Ev.neg hlt ?_
          rw [ew]
          exact ih (by omega) _ (hX.set hml hO (c := 1) (by omega) (by omega))
def encF (p r n : Int) : Option (List Int) → Int × Int × Int × List Int × Bool
  | some Y => (p, r, n, Y, true)
  | none => (0, 0, 0, [], false)
theorem spec_FindMatrix.search (p s n len : Nat) (hp : 2 ≤ p ∧ p < 100) (hs : s < 256) (hn : n ≤ 8) (hlen : len ≤ 64) (hn0 : 0 < len → 0 < n) (isO : Nat → Bool) (r : Int) (l : List Int) (T : List Int → Bool) (hT : Serves (p : Int) r (n : Int) l T) (X : List Int) (hX : CInv p s n len isO X) (h1 : ∀ k : Nat, k < len → isO k = true → rd X (k : Int) = 1) :
    Ev (fun k => spec_FindMatrix.l0 k (s : Int) (n : Int) l (p : Int) r (n : Int) X) (encF (p : Int) r (n : Int) (srch p T ((List.range len).filter isO) X)) := by
  have mem : ∀ o, o ∈ ((List.range len).filter isO).reverse → o < len ∧ isO o = true := fun o ho => by
    rw [List.mem_reverse, List.mem_filter, List.mem_range] at ho; exact ho
  have cond : ∀ X, CInv p s n len isO X → ∀ w, (T X = true → w = (((p : Int), r, (n : Int), X, true) : Int × Int × Int × List Int × Bool)) →
      (T X = false → ((nxtR p ((List.range len).filter isO).reverse X).1 = true → Ev (fun k => spec_FindMatrix.l0 k (s : Int) (n : Int) l (p : Int) r (n : Int) (nxtR p ((List.range len).filter isO).reverse X).2) w) ∧ ((nxtR p ((List.range len).filter isO).reverse X).1 = false → w = (0, 0, 0, [], false))) →
      Ev (fun k => spec_FindMatrix.l0 k (s : Int) (n : Int) l (p : Int) r (n : Int) X) w := by
    intro X hX w a b
    have hXl := hX.ln
    obtain ⟨v, h1, h2, h3, h4⟩ := hT X (by omega)
    refine Ev.succ ?_
    simp only [spec_FindMatrix.l0]
    refine Ev.bind h3 (Ev.bind (spec_EqualMatroid.is v.1 (n : Int) v.2 l (by rw [maxLen_eq]; omega)) ?_)
    rw [← h4]
    cases h : T X
    · refine Ev.neg (by decide) ?_
      have hnx := spec_l26Next.loop p s n len hp hs hn hlen hn0 isO r len (Nat.le_refl _) X hX
      have e : Ev (fun k => spec_l26Next.f k (p : Int) r (n : Int) X (s : Int)) (nxtR p ((List.range len).filter isO).reverse X) := by
        unfold spec_l26Next.f
        rw [hXl, w64 (n := (len : Int) - 1) (by omega) (by omega)]; exact hnx
      refine Ev.bind e ?_
      cases hc : (nxtR p ((List.range len).filter isO).reverse X).1
      · refine Ev.neg (by decide) (Ev.of ?_)
        rw [(b h).2 hc]
      · exact Ev.pos rfl ((b h).1 hc)
    · refine Ev.pos rfl (Ev.of ?_)
      rw [a h]
  obtain ⟨a, b⟩ := odo hp.1 T (fun X v => Ev (fun k => spec_FindMatrix.l0 k (s : Int) (n : Int) l (p : Int) r (n : Int) X) (encF (p : Int) r (n : Int) v)) (CInv p s n len isO) ((List.range len).filter isO).reverse
    (List.pairwise_reverse.2 ((List.Pairwise.filter _ List.nodup_range).imp (fun h e => h e.symm)))
    (fun X hX o ho => by rw [hX.ln]; exact (mem o ho).1)
    (fun X o c hX ho h1 h2 => hX.set (mem o ho).1 (mem o ho).2 h1 h2)
    (fun X hX h => cond X hX _ (fun _ => rfl) (fun h2 => by rw [h] at h2; exact absurd h2 (by decide)))
    (fun X v hX h h2 h3 => cond X hX _ (fun h4 => by rw [h] at h4; exact absurd h4 (by decide)) (fun _ => ⟨h2, fun h4 => by rw [h3 h4]; rfl⟩))
    ((List.range len).filter isO) [] (by simp) X hX (fun o ho => by
      rw [List.mem_filter, List.mem_range] at ho
      exact h1 o ho.1 ho.2)
  cases h : srch p T ((List.range len).filter isO) X with
  | some Y => exact a Y h
  | none => exact b h none (fun h => by simp [nxtR] at h) (fun _ => rfl)
end Go.Proofs.Ytbhckhblonkajaa.Q
