/- Part of a proof: contracts and lemmas that the row's text uses; joined by a program. -/
import Derived.Test.YtbhckhblonkajaaH04
import Derived.Test.YtbhckhblonkajaaH09
import Derived.Test.YtbhckhblonkajaaH16
import Derived.Test.YtbhckhblonkajaaH23
set_option linter.unusedVariables false
set_option linter.unusedSimpArgs false
namespace Go.Proofs.Lin
def sumTo (n : Nat) (f : Nat → Int) : Int := match n with
  | 0 => 0
  | n + 1 => sumTo n f + f n
theorem sumTo_congr {n : Nat} {f g : Nat → Int} (h : ∀ j, j < n → f j = g j) : sumTo n f = sumTo n g := by
  induction n with
  | zero => rfl
  | succ n ih => simp only [sumTo]; rw [ih (fun j hj => h j (by omega)), h n (by omega)]
theorem sumTo_add (n : Nat) (f g : Nat → Int) : sumTo n (fun j => f j + g j) = sumTo n f + sumTo n g := by
  induction n with
  | zero => rfl
  | succ n ih => simp only [sumTo]; rw [ih]; omega
theorem sumTo_mul (n : Nat) (a : Int) (f : Nat → Int) : sumTo n (fun j => a * f j) = a * sumTo n f := by
  induction n with
  | zero => simp [sumTo]
  | succ n ih => simp only [sumTo]; rw [ih, Int.mul_add]
theorem sumTo_zero (n : Nat) : sumTo n (fun _ => 0) = 0 := by
  induction n with
  | zero => rfl
  | succ n ih => simp only [sumTo]; rw [ih]; rfl
theorem sumTo_dvd {p : Int} {n : Nat} {f : Nat → Int} (h : ∀ j, j < n → p ∣ f j) : p ∣ sumTo n f := by
  induction n with
  | zero => exact Int.dvd_zero p
  | succ n ih => exact Int.dvd_add (ih (fun j hj => h j (by omega))) (h n (by omega))
theorem sumTo_swap (n m : Nat) (f : Nat → Nat → Int) : sumTo n (fun i => sumTo m (fun j => f i j)) = sumTo m (fun j => sumTo n (fun i => f i j)) := by
  induction n with
  | zero => simp only [sumTo]; rw [sumTo_zero]
  | succ n ih => simp only [sumTo]; rw [ih, sumTo_add]
theorem sumTo_one {n : Nat} {k : Nat} (hk : k < n) (f : Nat → Int) (h : ∀ j, j < n → j ≠ k → f j = 0) : sumTo n f = f k := by
  induction n with
  | zero => omega
  | succ n ih =>
    simp only [sumTo]
    by_cases hn : k = n
    · subst hn
      rw [sumTo_congr (g := fun _ => 0) (fun j hj => h j (by omega) (by omega)), sumTo_zero]; omega
    · rw [ih (by omega) (fun j hj hne => h j (by omega) hne), h n (by omega) (by omega)]; omega
def sumOn (S : Nat → Bool) (n : Nat) (f : Nat → Int) : Int := sumTo n (fun j => if S j then f j else 0)
theorem sumOn_congr {S : Nat → Bool} {n : Nat} {f g : Nat → Int} (h : ∀ j, j < n → S j = true → f j = g j) : sumOn S n f = sumOn S n g :=
  sumTo_congr (fun j hj => by by_cases hs : S j = true <;> simp [hs]; exact h j hj hs)
theorem sumOn_add (S : Nat → Bool) (n : Nat) (f g : Nat → Int) : sumOn S n (fun j => f j + g j) = sumOn S n f + sumOn S n g := by
  unfold sumOn; rw [← sumTo_add]; exact sumTo_congr (fun j _ => by split <;> simp)
theorem sumOn_mul (S : Nat → Bool) (n : Nat) (a : Int) (f : Nat → Int) : sumOn S n (fun j => a * f j) = a * sumOn S n f := by
  unfold sumOn; rw [← sumTo_mul]; exact sumTo_congr (fun j _ => by split <;> simp)
theorem sumOn_dvd {p : Int} {S : Nat → Bool} {n : Nat} {f : Nat → Int} (h : ∀ j, j < n → S j = true → p ∣ f j) : p ∣ sumOn S n f :=
  sumTo_dvd (fun j hj => by by_cases hs : S j = true <;> simp [hs]; exact h j hj hs)
def drop1 (S : Nat → Bool) (k : Nat) : Nat → Bool := fun j => S j && (j != k)
theorem sumOn_drop {S : Nat → Bool} {n k : Nat} (hk : k < n) (hS : S k = true) (f : Nat → Int) : sumOn S n f = sumOn (drop1 S k) n f + f k := by
  have e : sumTo n (fun j => if j = k then f k else 0) = f k := by
    rw [sumTo_one hk _ (fun j _ hne => by simp [hne])]; simp
  unfold sumOn
  rw [← e, ← sumTo_add]
  refine sumTo_congr (fun j _ => ?_)
  by_cases h : j = k
  · subst h; simp [drop1, hS]
  · simp [drop1, h]
def cnt (S : Nat → Bool) : Nat → Nat
  | 0 => 0
  | n + 1 => cnt S n + (if S n then 1 else 0)
theorem cnt_congr {S T : Nat → Bool} {n : Nat} (h : ∀ j, j < n → S j = T j) : cnt S n = cnt T n := by
  induction n with
  | zero => rfl
  | succ n ih => simp only [cnt]; rw [ih (fun j hj => h j (by omega)), h n (by omega)]
theorem cnt_drop {S : Nat → Bool} {n k : Nat} (hk : k < n) (hS : S k = true) : cnt S n = cnt (drop1 S k) n + 1 := by
  induction n with
  | zero => omega
  | succ n ih =>
    simp only [cnt]
    by_cases hn : k = n
    · subst hn
      have e : cnt (drop1 S k) k = cnt S k := cnt_congr (fun j hj => by
        have h1 : j ≠ k := Nat.ne_of_lt hj
        simp [drop1, h1])
      rw [e]
      simp [drop1, hS]
    · have : n ≠ k := by omega
      rw [ih (by omega)]; simp [drop1, this]; omega
theorem cnt_pos {S : Nat → Bool} {n : Nat} (h : 0 < cnt S n) : ∃ j, j < n ∧ S j = true := by
  induction n with
  | zero => simp [cnt] at h
  | succ n ih =>
    by_cases hs : S n = true
    · exact ⟨n, by omega, hs⟩
    · simp [cnt, hs] at h
      obtain ⟨j, hj, h2⟩ := ih h
      exact ⟨j, by omega, h2⟩
theorem cnt_le {S T : Nat → Bool} {n : Nat} (h : ∀ j, j < n → S j = true → T j = true) : cnt S n ≤ cnt T n := by
  induction n with
  | zero => exact Nat.le_refl _
  | succ n ih =>
    simp only [cnt]
    have := ih (fun j hj => h j (by omega))
    by_cases hs : S n = true
    · simp [hs, h n (by omega) hs]; omega
    · simp [hs]; omega
def Prime (p : Int) : Prop := ¬ p ∣ 1 ∧ ∀ a b, p ∣ a * b → p ∣ a ∨ p ∣ b
theorem hom {p : Int} (hp : Prime p) : ∀ (r n : Nat) (T S : Nat → Bool) (A : Nat → Nat → Int), cnt T r < cnt S n →
    ∃ c : Nat → Int, (∃ j, j < n ∧ S j = true ∧ ¬ p ∣ c j) ∧ ∀ i, i < r → T i = true → p ∣ sumOn S n (fun j => A i j * c j) := by
  intro r
  induction r with
  | zero =>
    intro n T S A h
    obtain ⟨j, hj, hS⟩ := cnt_pos (Nat.lt_of_le_of_lt (Nat.zero_le _) h)
    exact ⟨fun _ => 1, ⟨j, hj, hS, hp.1⟩, fun i hi => absurd hi (Nat.not_lt_zero i)⟩
  | succ r ih =>
    intro n T S A h
    by_cases hT : T r = true
    · by_cases hz : ∀ j, j < n → S j = true → p ∣ A r j
      · obtain ⟨c, hc, he⟩ := ih n T S A (by simp [cnt, hT] at h; omega)
        refine ⟨c, hc, fun i hi hTi => ?_⟩
        by_cases hir : i = r
        · subst hir
          exact sumOn_dvd (fun j hj hs => Int.dvd_trans (hz j hj hs) (Int.dvd_mul_right _ _))
        · exact he i (by omega) hTi
      · simp only [Classical.not_forall] at hz
        obtain ⟨k, hk, hS, hA⟩ := hz
        have hlt : cnt T r < cnt (drop1 S k) n := by
          have := cnt_drop hk hS; simp [cnt, hT] at h; omega
        obtain ⟨d, ⟨j, hj, hjS, hjd⟩, he⟩ := ih n T (drop1 S k) (fun i j => A i j * A r k - A i k * A r j) hlt
        have hjS2 : S j = true ∧ j ≠ k := by simpa [drop1] using hjS
        let s := sumOn (drop1 S k) n (fun j => A r j * d j)
        let c : Nat → Int := fun j => if j = k then - s else A r k * d j
        have hc : ∀ i, sumOn S n (fun j => A i j * c j) = sumOn (drop1 S k) n (fun j => (A i j * A r k - A i k * A r j) * d j) := by
          intro i
          rw [sumOn_drop hk hS]
          have e1 : sumOn (drop1 S k) n (fun j => A i j * c j) = sumOn (drop1 S k) n (fun j => A i j * (A r k * d j)) :=
            sumOn_congr (fun j _ hjs => by
              have : j ≠ k := by have := hjs; simp [drop1] at this; exact this.2
              simp [c, this])
          have e2 : sumOn (drop1 S k) n (fun j => (A i j * A r k - A i k * A r j) * d j) = sumOn (drop1 S k) n (fun j => A i j * (A r k * d j)) + (- A i k) * s := by
            rw [← sumOn_mul, ← sumOn_add]; exact sumOn_congr (fun j _ _ => by grind)
          rw [e1, e2]
          have : c k = - s := by simp [c]
          rw [this]; grind
        refine ⟨c, ⟨j, hj, hjS2.1, ?_⟩, fun i hi hTi => ?_⟩
        · have : c j = A r k * d j := by simp [c, hjS2.2]
          rw [this]
          intro hd
          rcases hp.2 _ _ hd with h1 | h1
          · exact hA h1
          · exact hjd h1
        · rw [hc]
          by_cases hir : i = r
          · subst hir
            exact sumOn_dvd (fun j _ _ => by rw [show A i j * A i k - A i k * A i j = 0 by grind]; simp)
          · exact he i (by omega) hTi
    · obtain ⟨c, hc, he⟩ := ih n T S A (by simp [cnt, hT] at h; omega)
      refine ⟨c, hc, fun i hi hTi => ?_⟩
      by_cases hir : i = r
      · subst hir; exact absurd hTi hT
      · exact he i (by omega) hTi
end Go.Proofs.Lin
namespace Go.Proofs.Lin
def Ind (p : Int) (M : Nat → Nat → Int) (r n : Nat) (S : Nat → Bool) : Prop :=
  ∀ c : Nat → Int, (∀ i, i < r → p ∣ sumOn S n (fun j => M i j * c j)) → ∀ j, j < n → S j = true → p ∣ c j
structure Ech (p : Int) (M : Nat → Nat → Int) (r n : Nat) (S P : Nat → Bool) : Prop where
  sub : ∀ j, j < n → P j = true → S j = true
  piv : ∀ j, j < n → P j = true → ¬ p ∣ M (cnt P j) j
  low : ∀ j, j < n → S j = true → ∀ i, i < r → cnt P (j + 1) ≤ i → p ∣ M i j
  fit : cnt P n ≤ r
theorem cnt_mono {P : Nat → Bool} {a b : Nat} (h : a ≤ b) : cnt P a ≤ cnt P b := by
  induction b with
  | zero => have : a = 0 := by omega
            subst this; exact Nat.le_refl _
  | succ b ih =>
    by_cases hb : a = b + 1
    · subst hb; exact Nat.le_refl _
    · simp only [cnt]; have := ih (by omega); omega
theorem cnt_lt {P : Nat → Bool} {j n : Nat} (hj : j < n) (hP : P j = true) : cnt P j < cnt P n := by
  have h := cnt_mono (P := P) (show j + 1 ≤ n from hj)
  simp [cnt, hP] at h; omega
theorem cnt_true (n : Nat) : cnt (fun _ => true) n = n := by
  induction n with
  | zero => rfl
  | succ n ih => simp [cnt, ih]
theorem sumOn_sub {S T : Nat → Bool} {n : Nat} {f g : Nat → Int} (h : ∀ j, j < n → (if S j then f j else 0) = (if T j then g j else 0)) : sumOn S n f = sumOn T n g := sumTo_congr h
theorem sumOn_one {p : Int} {S : Nat → Bool} {n k : Nat} (hk : k < n) (hS : S k = true) {f : Nat → Int} (h : ∀ j, j < n → S j = true → j ≠ k → p ∣ f j) (hs : p ∣ sumOn S n f) : p ∣ f k := by
  rw [sumOn_drop hk hS] at hs
  have h2 : p ∣ sumOn (drop1 S k) n f := sumOn_dvd (fun j hj hd => by
    simp [drop1] at hd; exact h j hj hd.1 hd.2)
  exact (Int.dvd_add_right h2).1 hs
theorem Ech.ind {p : Int} (hp : Prime p) {M : Nat → Nat → Int} {r n : Nat} {S P : Nat → Bool} (h : Ech p M r n S P) (hall : ∀ j, j < n → S j = true → P j = true) : Ind p M r n S := by
  intro c hc
  have key : ∀ m, ∀ j, j < n → n - j ≤ m → S j = true → p ∣ c j := by
    intro m
    induction m with
    | zero => intro j hj hm; omega
    | succ m ih =>
      intro j hj hm hS
      have hP := hall j hj hS
      have hi : cnt P j < r := Nat.lt_of_lt_of_le (cnt_lt hj hP) h.fit
      have h1 := sumOn_one hj hS (f := fun j' => M (cnt P j) j' * c j') (fun j' hj' hS' hne => by
        by_cases hlt : j' < j
        · exact Int.dvd_trans (h.low j' hj' hS' _ hi (cnt_mono hlt)) (Int.dvd_mul_right _ _)
        · exact Int.dvd_trans (ih j' hj' (by omega) hS') (Int.dvd_mul_left _ _)) (hc _ hi)
      rcases hp.2 _ _ h1 with h2 | h2
      · exact absurd h2 (h.piv j hj hP)
      · exact h2
  exact fun j hj hS => key n j hj (by omega) hS
theorem cnt_or {P : Nat → Bool} {n k : Nat} (hk : k < n) (hP : P k = false) : cnt (fun j => decide (j ≤ k) && (P j || j == k)) n = cnt P k + 1 := by
  have e1 : ∀ m, m ≤ k → cnt (fun j => decide (j ≤ k) && (P j || j == k)) m = cnt P m := fun m hm => cnt_congr (fun j hj => by
    have h1 : j ≤ k := by omega
    have h2 : j ≠ k := by omega
    simp [h1, h2])
  have e2 : ∀ m, k + 1 ≤ m → cnt (fun j => decide (j ≤ k) && (P j || j == k)) m = cnt P k + 1 := by
    intro m hm
    induction m with
    | zero => omega
    | succ m ih =>
      by_cases hmk : m = k
      · subst hmk; simp only [cnt]; rw [e1 _ (Nat.le_refl _)]; simp
      · simp only [cnt]; rw [ih (by omega)]
        have : ¬ m ≤ k := by omega
        simp [this]
  exact e2 n (by omega)
theorem Ech.dep {p : Int} (hp : Prime p) {M : Nat → Nat → Int} {r n : Nat} {S P : Nat → Bool} (h : Ech p M r n S P) {k : Nat} (hk : k < n) (hS : S k = true) (hP : P k = false) : ¬ Ind p M r n S := by
  intro hI
  let Q : Nat → Bool := fun j => decide (j ≤ k) && (P j || j == k)
  have hQ : cnt Q n = cnt P k + 1 := cnt_or hk hP
  obtain ⟨c, ⟨j, hj, hQj, hcj⟩, he⟩ := hom hp (cnt P k) n (fun _ => true) Q M (by rw [cnt_true, hQ]; omega)
  have hQS : ∀ j, j < n → Q j = true → S j = true := by
    intro j hj hq
    simp [Q] at hq
    rcases hq.2 with h1 | h1
    · exact h.sub j hj h1
    · subst h1; exact hS
  have h0 : p ∣ (if Q j then c j else 0) := by
    refine hI (fun j => if Q j then c j else 0) (fun i hi => ?_) j hj (hQS j hj hQj)
    rw [show sumOn S n (fun j => M i j * (if Q j then c j else 0)) = sumOn Q n (fun j => M i j * c j) from sumOn_sub (fun j hj => by
      by_cases hq : Q j = true
      · simp [hq, hQS j hj hq]
      · simp [hq])]
    by_cases hik : i < cnt P k
    · exact he i hik rfl
    · refine sumOn_dvd (fun j hj hq => Int.dvd_trans (h.low j hj (hQS j hj hq) i hi ?_) (Int.dvd_mul_right _ _))
      have hjk : j ≤ k := by simp [Q] at hq; exact hq.1
      have : cnt P (j + 1) ≤ cnt P (k + 1) := cnt_mono (by omega)
      simp [cnt, hP] at this
      have h3 : cnt P (j + 1) = cnt P j + (if P j then 1 else 0) := rfl
      omega
  simp [hQj] at h0
  exact hcj h0
theorem Ech.rank {p : Int} (hp : Prime p) {M : Nat → Nat → Int} {r n : Nat} {S P : Nat → Bool} (h : Ech p M r n S P) : cnt P n = cnt S n ↔ Ind p M r n S := by
  constructor
  · intro he
    refine h.ind hp (fun j hj hS => ?_)
    by_cases hP : P j = true
    · exact hP
    · exfalso
      have h1 : cnt P n ≤ cnt (drop1 S j) n := cnt_le (fun i hi hPi => by
        have : i ≠ j := fun e => hP (e ▸ hPi)
        simp [drop1, h.sub i hi hPi, this])
      have := cnt_drop hj hS
      omega
  · intro hI
    apply Nat.le_antisymm (cnt_le h.sub)
    refine cnt_le (fun j hj hS => ?_)
    by_cases hP : P j = true
    · exact hP
    · exact absurd hI (h.dep hp hj hS (by simpa using hP))
theorem Ech.le {p : Int} (hp : Prime p) {M : Nat → Nat → Int} {r n : Nat} {S P I : Nat → Bool} (h : Ech p M r n S P) (hIS : ∀ j, j < n → I j = true → S j = true) (hI : Ind p M r n I) : cnt I n ≤ cnt P n := by
  apply Nat.le_of_not_lt
  intro hlt
  obtain ⟨c, ⟨j, hj, hIj, hcj⟩, he⟩ := hom hp (cnt P n) n (fun _ => true) I M (by rw [cnt_true]; exact hlt)
  refine hcj (hI c (fun i hi => ?_) j hj hIj)
  by_cases hin : i < cnt P n
  · exact he i hin rfl
  · exact sumOn_dvd (fun j hj hq => Int.dvd_trans (h.low j hj (hIS j hj hq) i hi (Nat.le_trans (cnt_mono hj) (by omega))) (Int.dvd_mul_right _ _))
theorem Ech.pivots {p : Int} (hp : Prime p) {M : Nat → Nat → Int} {r n : Nat} {S P : Nat → Bool} (h : Ech p M r n S P) : Ind p M r n P :=
  Ech.ind hp (S := P) (P := P) ⟨fun _ _ h => h, h.piv, fun j hj hP => h.low j hj (h.sub j hj hP), h.fit⟩ (fun _ _ h => h)
def add1 (S : Nat → Bool) (k : Nat) : Nat → Bool := fun j => S j || (j == k)
theorem Ind.max {p : Int} (hp : Prime p) {M : Nat → Nat → Int} {r n : Nat} {I P : Nat → Bool} (hI : Ind p M r n I) (hP : Ind p M r n P)
    (hmax : ∀ q, q < n → P q = true → I q = false → ¬ Ind p M r n (add1 I q)) : cnt P n ≤ cnt I n := by
  apply Nat.le_of_not_lt
  intro hlt
  have hq : ∀ q, ∃ (b : Int) (a : Nat → Int), q < n → P q = true → ¬ p ∣ b ∧ ∀ i, i < r → p ∣ b * M i q + sumOn I n (fun j => M i j * a j) := by
    intro q
    by_cases h0 : q < n ∧ P q = true
    · obtain ⟨hqn, hPq⟩ := h0
      by_cases hIq : I q = true
      · refine ⟨1, fun j => if j = q then -1 else 0, fun _ _ => ⟨hp.1, fun i hi => ?_⟩⟩
        rw [sumOn_drop hqn hIq]
        rw [show sumOn (drop1 I q) n (fun j => M i j * (if j = q then -1 else 0)) = 0 from by
          rw [show sumOn (drop1 I q) n (fun j => M i j * (if j = q then -1 else 0)) = sumTo n (fun _ => 0) from sumTo_congr (fun j _ => by by_cases e : j = q <;> simp [drop1, e]), sumTo_zero]]
        simp only [if_true]
        rw [show 1 * M i q + (0 + M i q * -1) = 0 by grind]; exact Int.dvd_zero p
      · have hIq : I q = false := by simpa using hIq
        have hd := hmax q hqn hPq hIq
        simp only [Ind, Classical.not_forall] at hd
        obtain ⟨c, hc, j, hj, hjI, hcj⟩ := hd
        have hsum : ∀ i, sumOn (add1 I q) n (fun j => M i j * c j) = sumOn I n (fun j => M i j * c j) + M i q * c q := by
          intro i
          rw [sumOn_drop (S := add1 I q) hqn (by simp [add1])]
          congr 1
          exact sumOn_sub (fun j _ => by
            by_cases e : j = q
            · subst e; simp [drop1, hIq]
            · simp [drop1, add1, e])
        refine ⟨c q, c, fun _ _ => ⟨fun hcq => hcj ?_, fun i hi => ?_⟩⟩
        · have hIc := hI c (fun i hi => by
            have h1 := hc i hi
            rw [hsum] at h1
            exact (Int.dvd_add_left (Int.dvd_trans hcq (Int.dvd_mul_left _ _))).1 h1)
          by_cases e : j = q
          · subst e; exact hcq
          · exact hIc j hj (by simpa [add1, e] using hjI)
        · have h1 := hc i hi
          rw [hsum] at h1
          rw [show c q * M i q + sumOn I n (fun j => M i j * c j) = sumOn I n (fun j => M i j * c j) + M i q * c q by grind]
          exact h1
    · exact ⟨0, fun _ => 0, fun h1 h2 => absurd ⟨h1, h2⟩ h0⟩
  let b := fun q => Classical.choose (hq q)
  let a := fun q => Classical.choose (Classical.choose_spec (hq q))
  have hba : ∀ q, q < n → P q = true → ¬ p ∣ b q ∧ ∀ i, i < r → p ∣ b q * M i q + sumOn I n (fun j => M i j * a q j) := fun q => Classical.choose_spec (Classical.choose_spec (hq q))
  obtain ⟨d, ⟨q, hqn, hPq, hdq⟩, he⟩ := hom hp n n I P (fun j q => a q j) hlt
  have h1 : p ∣ d q * b q := by
    refine hP (fun q => d q * b q) (fun i hi => ?_) q hqn hPq
    have e1 : sumOn P n (fun q => d q * (b q * M i q + sumOn I n (fun j => M i j * a q j))) = sumOn P n (fun q => M i q * (d q * b q)) + sumOn P n (fun q => d q * sumOn I n (fun j => M i j * a q j)) := by
      rw [← sumOn_add]; exact sumOn_congr (fun q _ _ => by grind)
    have h2 : p ∣ sumOn P n (fun q => d q * (b q * M i q + sumOn I n (fun j => M i j * a q j))) := sumOn_dvd (fun q hqn hPq => Int.dvd_trans ((hba q hqn hPq).2 i hi) (Int.dvd_mul_left _ _))
    have e2 : sumOn P n (fun q => d q * sumOn I n (fun j => M i j * a q j)) = sumOn I n (fun j => M i j * sumOn P n (fun q => a q j * d q)) := by
      have l1 : sumOn P n (fun q => d q * sumOn I n (fun j => M i j * a q j)) = sumTo n (fun q => sumTo n (fun j => if P q then (if I j then M i j * (a q j * d q) else 0) else 0)) := by
        unfold sumOn
        refine sumTo_congr (fun q _ => ?_)
        by_cases hq : P q = true
        · simp only [hq, if_true]; rw [← sumTo_mul]
          exact sumTo_congr (fun j _ => by by_cases hj : I j = true <;> simp [hj]; grind)
        · simp [hq, sumTo_zero]
      have l2 : sumOn I n (fun j => M i j * sumOn P n (fun q => a q j * d q)) = sumTo n (fun j => sumTo n (fun q => if P q then (if I j then M i j * (a q j * d q) else 0) else 0)) := by
        unfold sumOn
        refine sumTo_congr (fun j _ => ?_)
        by_cases hj : I j = true
        · simp only [hj, if_true]; rw [← sumTo_mul]
          exact sumTo_congr (fun q _ => by by_cases hq : P q = true <;> simp [hq])
        · simp [hj, sumTo_zero]
      rw [l1, l2]; exact sumTo_swap n n _
    have h3 : p ∣ sumOn I n (fun j => M i j * sumOn P n (fun q => a q j * d q)) := sumOn_dvd (fun j hj hIj => Int.dvd_trans (he j hj hIj) (Int.dvd_mul_left _ _))
    rw [e1, e2] at h2
    exact (Int.dvd_add_left h3).1 h2
  rcases hp.2 _ _ h1 with h | h
  · exact hdq h
  · exact (hba q hqn hPq).1 h
end Go.Proofs.Lin
namespace Go.Proofs.Lin
def Sol (p : Int) (r n : Nat) (M M' : Nat → Nat → Int) : Prop := ∀ c : Nat → Int, (∀ i, i < r → p ∣ sumTo n (fun j => M i j * c j)) ↔ (∀ i, i < r → p ∣ sumTo n (fun j => M' i j * c j))
theorem Sol.refl (p : Int) (r n : Nat) (M : Nat → Nat → Int) : Sol p r n M M := fun _ => Iff.rfl
theorem Sol.trans {p : Int} {r n : Nat} {M M' M'' : Nat → Nat → Int} (h : Sol p r n M M') (h2 : Sol p r n M' M'') : Sol p r n M M'' := fun c => (h c).trans (h2 c)
theorem sumOn_to (S : Nat → Bool) (n : Nat) (f c : Nat → Int) : sumOn S n (fun j => f j * c j) = sumTo n (fun j => f j * (if S j then c j else 0)) :=
  sumTo_congr (fun j _ => by by_cases h : S j = true <;> simp [h])
theorem Sol.ind {p : Int} {r n : Nat} {M M' : Nat → Nat → Int} (h : Sol p r n M M') (S : Nat → Bool) : Ind p M r n S ↔ Ind p M' r n S := by
  constructor
  · intro hI c hc
    refine hI c (fun i hi => ?_)
    rw [sumOn_to]
    exact (h (fun j => if S j then c j else 0)).2 (fun i hi => by rw [← sumOn_to]; exact hc i hi) i hi
  · intro hI c hc
    refine hI c (fun i hi => ?_)
    rw [sumOn_to]
    exact (h (fun j => if S j then c j else 0)).1 (fun i hi => by rw [← sumOn_to]; exact hc i hi) i hi
theorem Sol.congr {p : Int} {r n : Nat} {M M' : Nat → Nat → Int} (h : ∀ i, i < r → ∀ j, j < n → p ∣ M i j - M' i j) : Sol p r n M M' := by
  intro c
  have key : ∀ i, i < r → p ∣ sumTo n (fun j => M i j * c j) - sumTo n (fun j => M' i j * c j) := fun i hi => by
    have e : sumTo n (fun j => M i j * c j) - sumTo n (fun j => M' i j * c j) = sumTo n (fun j => (M i j - M' i j) * c j) := by
      have := sumTo_add n (fun j => (M i j - M' i j) * c j) (fun j => M' i j * c j)
      rw [show sumTo n (fun j => M i j * c j) = sumTo n (fun j => (M i j - M' i j) * c j + M' i j * c j) from sumTo_congr (fun j _ => by grind)]
      rw [this]; omega
    rw [e]
    exact sumTo_dvd (fun j hj => Int.dvd_trans (h i hi j hj) (Int.dvd_mul_right _ _))
  constructor
  · intro hc i hi
    have h1 := Int.dvd_sub (hc i hi) (key i hi)
    rwa [show sumTo n (fun j => M i j * c j) - (sumTo n (fun j => M i j * c j) - sumTo n (fun j => M' i j * c j)) = sumTo n (fun j => M' i j * c j) by omega] at h1
  · intro hc i hi
    have h1 := Int.dvd_add (key i hi) (hc i hi)
    rwa [show sumTo n (fun j => M i j * c j) - sumTo n (fun j => M' i j * c j) + sumTo n (fun j => M' i j * c j) = sumTo n (fun j => M i j * c j) by omega] at h1
theorem Sol.swap {p : Int} {r n : Nat} {M M' : Nat → Nat → Int} {a b : Nat} (ha : a < r) (hb : b < r) (h1 : ∀ j, j < n → M' a j = M b j) (h2 : ∀ j, j < n → M' b j = M a j) (h3 : ∀ i, i < r → i ≠ a → i ≠ b → ∀ j, j < n → M' i j = M i j) : Sol p r n M M' := by
  intro c
  have e1 : sumTo n (fun j => M' a j * c j) = sumTo n (fun j => M b j * c j) := sumTo_congr (fun j hj => by rw [h1 j hj])
  have e2 : sumTo n (fun j => M' b j * c j) = sumTo n (fun j => M a j * c j) := sumTo_congr (fun j hj => by rw [h2 j hj])
  have e3 : ∀ i, i < r → i ≠ a → i ≠ b → sumTo n (fun j => M' i j * c j) = sumTo n (fun j => M i j * c j) := fun i hi x y => sumTo_congr (fun j hj => by rw [h3 i hi x y j hj])
  constructor
  · intro hc i hi
    by_cases x : i = a
    · subst x; rw [e1]; exact hc b hb
    · by_cases y : i = b
      · subst y; rw [e2]; exact hc a ha
      · rw [e3 i hi x y]; exact hc i hi
  · intro hc i hi
    by_cases x : i = a
    · subst x; rw [← e2]; exact hc b hb
    · by_cases y : i = b
      · subst y; rw [← e1]; exact hc a ha
      · rw [← e3 i hi x y]; exact hc i hi
theorem Sol.elim {p : Int} (hp : Prime p) {r n : Nat} {M M' : Nat → Nat → Int} {t : Nat} (ht : t < r) (g f : Nat → Int) (hg : ∀ i, i < r → ¬ p ∣ g i) (h0 : ∀ j, j < n → p ∣ M' t j - g t * M t j) (h : ∀ i, i < r → i ≠ t → ∀ j, j < n → p ∣ M' i j - (g i * M i j + f i * M t j)) : Sol p r n M M' := by
  have hA : Sol p r n (fun i j => if i = t then g t * M t j else g i * M i j + f i * M t j) M' := by
    refine Sol.congr (fun i hi j hj => ?_)
    have neg : ∀ x y : Int, p ∣ x - y → p ∣ y - x := fun x y hd => by
      rw [show y - x = - (x - y) by omega]; exact Int.dvd_neg.2 hd
    by_cases e : i = t
    · subst e; simp only [if_true]; exact neg _ _ (h0 j hj)
    · simp only [e, if_false]; exact neg _ _ (h i hi e j hj)
  refine Sol.trans (fun c => ?_) hA
  have es : ∀ i, sumTo n (fun j => (if i = t then g t * M t j else g i * M i j + f i * M t j) * c j) = if i = t then g t * sumTo n (fun j => M t j * c j) else g i * sumTo n (fun j => M i j * c j) + f i * sumTo n (fun j => M t j * c j) := by
    intro i
    by_cases e : i = t
    · simp only [e, if_true]; rw [← sumTo_mul]; exact sumTo_congr (fun j _ => by grind)
    · simp only [e, if_false]; rw [← sumTo_mul, ← sumTo_mul, ← sumTo_add]; exact sumTo_congr (fun j _ => by grind)
  constructor
  · intro hc i hi
    rw [es]
    by_cases e : i = t
    · simp only [e, if_true]; exact Int.dvd_trans (hc t ht) (Int.dvd_mul_left _ _)
    · simp only [e, if_false]; exact Int.dvd_add (Int.dvd_trans (hc i hi) (Int.dvd_mul_left _ _)) (Int.dvd_trans (hc t ht) (Int.dvd_mul_left _ _))
  · intro hc i hi
    have ht' := hc t ht
    rw [es] at ht'
    simp only [if_true] at ht'
    have hT : p ∣ sumTo n (fun j => M t j * c j) := (hp.2 _ _ ht').resolve_left (hg t ht)
    by_cases e : i = t
    · subst e; exact hT
    · have hi' := hc i hi
      rw [es] at hi'
      simp only [e, if_false] at hi'
      have h1 := (Int.dvd_add_left (Int.dvd_trans hT (Int.dvd_mul_left _ _))).1 hi'
      exact (hp.2 _ _ h1).resolve_left (hg i hi)
end Go.Proofs.Lin
namespace Go.Proofs.Ytbhckhblonkajaa.Q
open Go.RowKit Go.Proofs.YtbhckhblonkajaaW.PrintWords Go.Proofs.YtbhckhblonkajaaW.PrintLast Go.Proofs.YtbhckhblonkajaaW.PrintMore
open Go.Proofs.Lin
def mx (n : Nat) (a : List Int) (x y : Nat) : Int := rd a ((x * n + y : Nat) : Int)
theorem idx_lt {x y r n : Nat} (hx : x < r) (hy : y < n) : x * n + y < r * n := by
  have h : (x + 1) * n ≤ r * n := Nat.mul_le_mul_right n hx
  rw [Nat.add_mul] at h; omega
theorem idx_inj {x y x' y' n : Nat} (hy : y < n) (hy' : y' < n) : x * n + y = x' * n + y' ↔ x = x' ∧ y = y' := by
  constructor
  · intro h
    have e1 : (x * n + y) / n = x := by rw [Nat.mul_comm, Nat.mul_add_div (by omega), Nat.div_eq_of_lt hy]; rfl
    have e2 : (x' * n + y') / n = x' := by rw [Nat.mul_comm, Nat.mul_add_div (by omega), Nat.div_eq_of_lt hy']; rfl
    have hx : x = x' := by rw [← e1, ← e2, h]
    subst hx
    exact ⟨rfl, by omega⟩
  · rintro ⟨rfl, rfl⟩; rfl
theorem rd_set {a : List Int} {m k : Nat} {v : Int} (hm : m < a.length) (hk : k < a.length) : rd (a.set m v) (k : Int) = if k = m then v else rd a (k : Int) := by
  rw [rd_nat (by rw [List.length_set]; exact hk), rd_nat hk, List.getElem_set]
  by_cases h : m = k
  · subst h; simp
  · rw [if_neg h, if_neg (fun e => h e.symm)]
theorem mx_set {n r : Nat} {a : List Int} (hl : a.length = r * n) {i c : Nat} {v : Int} (hi : i < r) (hc : c < n) {x y : Nat} (hx : x < r) (hy : y < n) :
    mx n (a.set (i * n + c) v) x y = if x = i ∧ y = c then v else mx n a x y := by
  unfold mx
  rw [rd_set (by rw [hl]; exact idx_lt hi hc) (by rw [hl]; exact idx_lt hx hy)]
  by_cases h : x = i ∧ y = c
  · rw [if_pos h, if_pos ((idx_inj hy hc).2 h)]
  · rw [if_neg h, if_neg (fun e => h ((idx_inj hy hc).1 e))]
theorem widx {x y n : Nat} (hx : x ≤ 8) (hn : n ≤ 8) (hy : y ≤ 8) : wrap64 (wrap64 ((x : Int) * (n : Int)) + (y : Int)) = ((x * n + y : Nat) : Int) := by
  have h : x * n ≤ 8 * 8 := Nat.mul_le_mul hx hn
  have e : (x : Int) * (n : Int) = ((x * n : Nat) : Int) := by simp
  rw [e, w64 (n := ((x * n : Nat) : Int)) (by omega) (by omega), w64 (by omega) (by omega)]; omega
def elimE (p g f v w : Int) : Int := Int.tmod (wrap64 ((Int.tmod (wrap64 ((wrap64 (v * g)) - (wrap64 (w * f)))) p) + p)) p
theorem tmod_dvd (x p : Int) : p ∣ Int.tmod x p - x := by
  have h := Int.mul_tdiv_add_tmod x p
  exact ⟨- Int.tdiv x p, by rw [Int.mul_neg]; omega⟩
theorem elimE_is {p g f v w : Int} (hp : 0 < p ∧ p < 10) (hg : 0 ≤ g ∧ g < p) (hf : 0 ≤ f ∧ f < p) (hv : 0 ≤ v ∧ v < p) (hw : 0 ≤ w ∧ w < p) :
    (0 ≤ elimE p g f v w ∧ elimE p g f v w < p) ∧ p ∣ elimE p g f v w - (v * g - w * f) := by
  have m1 : 0 ≤ v * g ∧ v * g ≤ 100 := ⟨Int.mul_nonneg hv.1 hg.1, by
    have := Int.mul_le_mul (show v ≤ 10 by omega) (show g ≤ 10 by omega) hg.1 (by decide); omega⟩
  have m2 : 0 ≤ w * f ∧ w * f ≤ 100 := ⟨Int.mul_nonneg hw.1 hf.1, by
    have := Int.mul_le_mul (show w ≤ 10 by omega) (show f ≤ 10 by omega) hf.1 (by decide); omega⟩
  have b : -p < Int.tmod (v * g - w * f) p ∧ Int.tmod (v * g - w * f) p < p := by
    refine ⟨?_, Int.tmod_lt_of_pos _ hp.1⟩
    have h1 := Int.tmod_lt_of_pos (-(v * g - w * f)) hp.1
    rw [Int.neg_tmod] at h1
    omega
  unfold elimE
  rw [w64 (n := v * g) (by omega) (by omega), w64 (n := w * f) (by omega) (by omega), w64 (n := v * g - w * f) (by omega) (by omega), w64 (by omega) (by omega)]
  refine ⟨⟨Int.tmod_nonneg _ (by omega), Int.tmod_lt_of_pos _ hp.1⟩, ?_⟩
  have h1 := tmod_dvd (Int.tmod (v * g - w * f) p + p) p
  have h2 := tmod_dvd (v * g - w * f) p
  have h3 := Int.dvd_add (Int.dvd_add h1 h2) (Int.dvd_refl p)
  rwa [show Int.tmod (Int.tmod (v * g - w * f) p + p) p - (Int.tmod (v * g - w * f) p + p) + (Int.tmod (v * g - w * f) p - (v * g - w * f)) + p = Int.tmod (Int.tmod (v * g - w * f) p + p) p - (v * g - w * f) by omega] at h3
def Inr (p : Int) (r n : Nat) (a : List Int) : Prop := a.length = r * n ∧ ∀ x y, x < r → y < n → 0 ≤ mx n a x y ∧ mx n a x y < p
theorem spec_l4.row (p : Int) (hp : 0 < p ∧ p < 10) (r n : Nat) (hr : r ≤ 8) (hn : n ≤ 8) (s : Int) (t j u : Nat) (ht : t < r) (hu : u < r) (hut : u ≠ t) (f g : Int) (hg : 0 ≤ g ∧ g < p) (hf : 0 ≤ f ∧ f < p) :
    ∀ d c, c + d = n → ∀ a, Inr p r n a → ∃ a', Inr p r n a' ∧ (∀ x y, x < r → y < n → mx n a' x y = if x = u ∧ c ≤ y then elimE p g f (mx n a u y) (mx n a t y) else mx n a x y) ∧
      ∀ v, Ev (fun k => spec_l4Rank.l3 k p (r : Int) (n : Int) s a' (t : Int) (j : Int) ((u + 1 : Nat) : Int)) v → Ev (fun k => spec_l4Rank.l4 k p (r : Int) (n : Int) s a (t : Int) (j : Int) (u : Int) f g (c : Int)) v := by
  intro d
  induction d with
  | zero =>
    intro c hc a ha
    refine ⟨a, ha, fun x y hx hy => by rw [if_neg (by omega)], fun v hv => Ev.succ ?_⟩
    simp only [spec_l4Rank.l4]
    refine Ev.neg (by omega) ?_
    rw [wnext (by omega)]; exact hv
  | succ d ih =>
    intro c hc a ha
    have hcn : c < n := by omega
    have hE := elimE_is hp hg hf (ha.2 u c hu hcn) (ha.2 t c ht hcn)
    have hI : Inr p r n (a.set (u * n + c) (elimE p g f (mx n a u c) (mx n a t c))) := by
      refine ⟨by rw [List.length_set]; exact ha.1, fun x y hx hy => ?_⟩
      rw [mx_set ha.1 hu hcn hx hy]
      split
      · exact hE.1
      · exact ha.2 x y hx hy
    obtain ⟨a', h1, h2, h3⟩ := ih (c + 1) (by omega) _ hI
    refine ⟨a', h1, fun x y hx hy => ?_, fun v hv => Ev.succ ?_⟩
    · rw [h2 x y hx hy, mx_set ha.1 hu hcn hu hy, mx_set ha.1 hu hcn ht hy, mx_set ha.1 hu hcn hx hy]
      by_cases hxu : x = u
      · subst hxu
        by_cases hyc : y = c
        · subst hyc; simp; omega
        · have : ¬ (x = x ∧ y = c) := fun h => hyc h.2
          by_cases hle : c ≤ y
          · have h5 : c + 1 ≤ y := by omega
            simp [hle, h5, hyc]
          · have h5 : ¬ c + 1 ≤ y := by omega
            simp [hle, h5, hyc]
      · simp [hxu]
    · simp only [spec_l4Rank.l4]
      have i1 : ((u * n + c : Nat) : Int) < (a.length : Int) := by rw [ha.1]; exact_mod_cast idx_lt hu hcn
      have i2 : ((t * n + c : Nat) : Int) < (a.length : Int) := by rw [ha.1]; exact_mod_cast idx_lt ht hcn
      rw [widx (x := u) (y := c) (by omega) hn (by omega), widx (x := t) (y := c) (by omega) hn (by omega)]
      refine Ev.pos (by omega) (Ev.pos (by omega) (Ev.pos i1 (Ev.pos (by omega) (Ev.pos i2 (Ev.neg (by omega) ?_)))))
      rw [wnext (by omega)]
      exact h3 v hv
theorem spec_l4.rows (p : Int) (hp : 0 < p ∧ p < 10) (r n : Nat) (hr : r ≤ 8) (hn : n ≤ 8) (s : Int) (t j : Nat) (ht : t < r) (hj : j < n) :
    ∀ d u, u + d = r → t < u → ∀ a, Inr p r n a → ∃ a', Inr p r n a' ∧ (∀ x y, x < r → y < n → mx n a' x y = if u ≤ x then elimE p (mx n a t j) (mx n a x j) (mx n a x y) (mx n a t y) else mx n a x y) ∧
      ∀ v, Ev (fun k => spec_l4Rank.l0 k p (r : Int) (n : Int) s a' ((t + 1 : Nat) : Int) ((j + 1 : Nat) : Int)) v → Ev (fun k => spec_l4Rank.l3 k p (r : Int) (n : Int) s a (t : Int) (j : Int) (u : Int)) v := by
  intro d
  induction d with
  | zero =>
    intro u hu htu a ha
    refine ⟨a, ha, fun x y hx hy => by rw [if_neg (by omega)], fun v hv => Ev.succ ?_⟩
    simp only [spec_l4Rank.l3]
    refine Ev.neg (by omega) ?_
    rw [wnext (by omega), wnext (by omega)]; exact hv
  | succ d ih =>
    intro u hu htu a ha
    have hur : u < r := by omega
    obtain ⟨a1, b1, b2, b3⟩ := spec_l4.row p hp r n hr hn s t j u ht hur (by omega) (mx n a u j) (mx n a t j) (ha.2 t j ht hj) (ha.2 u j hur hj) n 0 (by omega) a ha
    obtain ⟨a', h1, h2, h3⟩ := ih (u + 1) (by omega) (by omega) a1 b1
    refine ⟨a', h1, fun x y hx hy => ?_, fun v hv => Ev.succ ?_⟩
    · have et : ∀ y, y < n → mx n a1 t y = mx n a t y := fun y hy => by rw [b2 t y ht hy, if_neg (by omega)]
      rw [h2 x y hx hy, et j hj, et y hy]
      by_cases hxu : x = u
      · subst hxu
        rw [if_neg (by omega), if_pos (by omega), b2 x y hx hy, if_pos (by omega)]
      · have e3 : mx n a1 x y = mx n a x y := by rw [b2 x y hx hy, if_neg (fun h => hxu h.1)]
        have e4 : mx n a1 x j = mx n a x j := by rw [b2 x j hx hj, if_neg (fun h => hxu h.1)]
        rw [e3, e4]
        by_cases hle : u ≤ x
        · rw [if_pos (show u + 1 ≤ x by omega), if_pos hle]
        · rw [if_neg (show ¬ u + 1 ≤ x by omega), if_neg hle]
    · simp only [spec_l4Rank.l3]
      have i1 : ((u * n + j : Nat) : Int) < (a.length : Int) := by rw [ha.1]; exact_mod_cast idx_lt hur hj
      have i2 : ((t * n + j : Nat) : Int) < (a.length : Int) := by rw [ha.1]; exact_mod_cast idx_lt ht hj
      rw [widx (x := u) (y := j) (by omega) hn (by omega), widx (x := t) (y := j) (by omega) hn (by omega)]
      exact Ev.pos (by omega) (Ev.pos (by omega) (Ev.pos i1 (Ev.pos (by omega) (Ev.pos i2 (b3 v (h3 v hv))))))
theorem spec_l4.swap (p : Int) (r n : Nat) (hr : r ≤ 8) (hn : n ≤ 8) (s : Int) (t j i : Nat) (ht : t < r) (hi : i < r) :
    ∀ d c, c + d = n → ∀ a, Inr p r n a → ∃ a', Inr p r n a' ∧ (∀ x y, x < r → y < n → mx n a' x y = if c ≤ y then (if x = t then mx n a i y else if x = i then mx n a t y else mx n a x y) else mx n a x y) ∧
      ∀ v, Ev (fun k => spec_l4Rank.l3 k p (r : Int) (n : Int) s a' (t : Int) (j : Int) ((t + 1 : Nat) : Int)) v → Ev (fun k => spec_l4Rank.l2 k p (r : Int) (n : Int) s a (t : Int) (j : Int) (i : Int) (c : Int)) v := by
  intro d
  induction d with
  | zero =>
    intro c hc a ha
    refine ⟨a, ha, fun x y hx hy => by rw [if_neg (by omega)], fun v hv => Ev.succ ?_⟩
    simp only [spec_l4Rank.l2]
    refine Ev.neg (by omega) ?_
    rw [wnext (by omega)]; exact hv
  | succ d ih =>
    intro c hc a ha
    have hcn : c < n := by omega
    have l1 : (a.set (i * n + c) (mx n a t c)).length = r * n := by rw [List.length_set]; exact ha.1
    have hset : ∀ x y, x < r → y < n → mx n ((a.set (i * n + c) (mx n a t c)).set (t * n + c) (mx n a i c)) x y = if x = t ∧ y = c then mx n a i c else if x = i ∧ y = c then mx n a t c else mx n a x y := fun x y hx hy => by
      rw [mx_set l1 ht hcn hx hy, mx_set ha.1 hi hcn hx hy]
    have hI : Inr p r n ((a.set (i * n + c) (mx n a t c)).set (t * n + c) (mx n a i c)) := by
      refine ⟨by rw [List.length_set]; exact l1, fun x y hx hy => ?_⟩
      rw [hset x y hx hy]
      split
      · exact ha.2 i c hi hcn
      · split
        · exact ha.2 t c ht hcn
        · exact ha.2 x y hx hy
    obtain ⟨a', h1, h2, h3⟩ := ih (c + 1) (by omega) _ hI
    refine ⟨a', h1, fun x y hx hy => ?_, fun v hv => Ev.succ ?_⟩
    · rw [h2 x y hx hy, hset i y hi hy, hset t y ht hy, hset x y hx hy]
      by_cases hyc : y = c
      · subst hyc
        rw [if_neg (show ¬ y + 1 ≤ y by omega), if_pos (Nat.le_refl y)]
        simp only [and_true]
      · have e1 : ∀ z, ¬ (z = t ∧ y = c) := fun z h => hyc h.2
        have e2 : ∀ z, ¬ (z = i ∧ y = c) := fun z h => hyc h.2
        rw [if_neg (e1 i), if_neg (e2 i), if_neg (e1 t), if_neg (e2 t), if_neg (e1 x), if_neg (e2 x)]
        by_cases hle : c ≤ y
        · rw [if_pos (show c + 1 ≤ y by omega), if_pos hle]
        · rw [if_neg (show ¬ c + 1 ≤ y by omega), if_neg hle]
    · simp only [spec_l4Rank.l2]
      have i1 : ((i * n + c : Nat) : Int) < (a.length : Int) := by rw [ha.1]; exact_mod_cast idx_lt hi hcn
      have i2 : ((t * n + c : Nat) : Int) < (a.length : Int) := by rw [ha.1]; exact_mod_cast idx_lt ht hcn
      rw [widx (x := i) (y := c) (by omega) hn (by omega), widx (x := t) (y := c) (by omega) hn (by omega)]
      refine Ev.pos (by omega) (Ev.pos (by omega) (Ev.pos i1 (Ev.pos (by omega) (Ev.pos i2 ?_))))
      rw [wnext (by omega)]
      exact h3 v hv
theorem prime_of {p : Int} (h : isFld p = true) : Prime p := by
  have key : ∀ q : Int, (q = 2 ∨ q = 3 ∨ q = 5 ∨ q = 7) → Prime q := by
    intro q hq
    refine ⟨by rcases hq with h | h | h | h <;> subst h <;> decide, fun a b hab => ?_⟩
    have hm : a * b % q = 0 := Int.emod_eq_zero_of_dvd hab
    rw [Int.mul_emod] at hm
    have hpos : 0 < q := by omega
    have ha0 := Int.emod_nonneg a (show q ≠ 0 by omega)
    have ha1 := Int.emod_lt_of_pos a hpos
    have hb0 := Int.emod_nonneg b (show q ≠ 0 by omega)
    have hb1 := Int.emod_lt_of_pos b hpos
    by_cases h0 : a % q = 0
    · exact .inl (Int.dvd_of_emod_eq_zero h0)
    · refine .inr (Int.dvd_of_emod_eq_zero ?_)
      generalize a % q = x at *
      generalize b % q = y at *
      have fin : ∀ q : Fin 8, (q.val = 2 ∨ q.val = 3 ∨ q.val = 5 ∨ q.val = 7) → ∀ x y : Fin 8, x.val < q.val → y.val < q.val → x.val ≠ 0 → (x.val * y.val) % q.val = 0 → y.val = 0 := by decide +kernel
      have := fin ⟨q.toNat, by omega⟩ (by simp only; omega) ⟨x.toNat, by omega⟩ ⟨y.toNat, by omega⟩ (by simp only; omega) (by simp only; omega) (by simp only; omega) (by
        simp only
        have e : ((x.toNat * y.toNat % q.toNat : Nat) : Int) = x * y % q := by
          rw [Int.natCast_emod, Int.natCast_mul]
          rw [Int.toNat_of_nonneg ha0, Int.toNat_of_nonneg hb0, Int.toNat_of_nonneg (by omega)]
        omega)
      simp only at this
      omega
  exact key p (isFld_iff.1 h)
theorem not_dvd {p x : Int} (h0 : 0 ≤ x) (h1 : x < p) (hne : x ≠ 0) : ¬ p ∣ x := fun h => by
  have := Int.le_of_dvd (by omega) h
  omega
theorem spec_l4.find (p : Int) (r n : Nat) (hr : r ≤ 8) (hn : n ≤ 8) (s : Int) (t j : Nat) (hj : j < n) (a : List Int) (ha : Inr p r n a) :
    ∀ d i, i + d = r →
      (∃ i', i ≤ i' ∧ i' < r ∧ mx n a i' j ≠ 0 ∧ ∀ v, Ev (fun k => spec_l4Rank.l2 k p (r : Int) (n : Int) s a (t : Int) (j : Int) (i' : Int) 0) v → Ev (fun k => spec_l4Rank.l1 k p (r : Int) (n : Int) s a (t : Int) (j : Int) (i : Int)) v) ∨
      ((∀ x, i ≤ x → x < r → mx n a x j = 0) ∧ ∀ v, Ev (fun k => spec_l4Rank.l0 k p (r : Int) (n : Int) s a (t : Int) ((j + 1 : Nat) : Int)) v → Ev (fun k => spec_l4Rank.l1 k p (r : Int) (n : Int) s a (t : Int) (j : Int) (i : Int)) v) := by
  intro d
  induction d with
  | zero =>
    intro i hi
    refine .inr ⟨fun x h1 h2 => by omega, fun v hv => Ev.succ ?_⟩
    simp only [spec_l4Rank.l1]
    refine Ev.neg (by omega) (Ev.succ ?_)
    simp only [spec_l4Rank.j2]
    refine Ev.pos (by omega) ?_
    rw [wnext (by omega)]; exact hv
  | succ d ih =>
    intro i hi
    have hir : i < r := by omega
    have i1 : ((i * n + j : Nat) : Int) < (a.length : Int) := by rw [ha.1]; exact_mod_cast idx_lt hir hj
    by_cases h0 : mx n a i j = 0
    · have step : ∀ v, Ev (fun k => spec_l4Rank.l1 k p (r : Int) (n : Int) s a (t : Int) (j : Int) ((i + 1 : Nat) : Int)) v → Ev (fun k => spec_l4Rank.l1 k p (r : Int) (n : Int) s a (t : Int) (j : Int) (i : Int)) v := fun v hv => by
        refine Ev.succ ?_
        simp only [spec_l4Rank.l1]
        rw [widx (x := i) (y := j) (by omega) hn (by omega)]
        refine Ev.pos (by omega) (Ev.pos (by omega) (Ev.pos i1 (Ev.pos h0 ?_)))
        rw [wnext (by omega)]; exact hv
      rcases ih (i + 1) (by omega) with ⟨i', h1, h2, h3, h4⟩ | ⟨h1, h2⟩
      · exact .inl ⟨i', by omega, h2, h3, fun v hv => step v (h4 v hv)⟩
      · refine .inr ⟨fun x h3 h4 => ?_, fun v hv => step v (h2 v hv)⟩
        by_cases e : x = i
        · subst e; exact h0
        · exact h1 x (by omega) h4
    · refine .inl ⟨i, Nat.le_refl _, hir, h0, fun v hv => Ev.succ ?_⟩
      simp only [spec_l4Rank.l1]
      rw [widx (x := i) (y := j) (by omega) hn (by omega)]
      refine Ev.pos (by omega) (Ev.pos (by omega) (Ev.pos i1 (Ev.neg h0 (Ev.succ ?_))))
      simp only [spec_l4Rank.j2]
      exact Ev.neg (by omega) hv
theorem Ech.skip {p : Int} {M : Nat → Nat → Int} {r j : Nat} {S P : Nat → Bool} (h : Ech p M r j S P) (hP : P j = false) (hz : S j = true → ∀ i, i < r → cnt P j ≤ i → p ∣ M i j) : Ech p M r (j + 1) S P := by
  have hc : cnt P (j + 1) = cnt P j := by simp [cnt, hP]
  refine ⟨fun y hy hPy => ?_, fun y hy hPy => ?_, fun y hy hS i hi hle => ?_, by rw [hc]; exact h.fit⟩
  · by_cases e : y = j
    · subst e; rw [hP] at hPy; exact absurd hPy (by decide)
    · exact h.sub y (by omega) hPy
  · by_cases e : y = j
    · subst e; rw [hP] at hPy; exact absurd hPy (by decide)
    · exact h.piv y (by omega) hPy
  · by_cases e : y = j
    · subst e; rw [hc] at hle; exact hz hS i hi hle
    · exact h.low y (by omega) hS i hi hle
theorem Ech.step {p : Int} {M M' : Nat → Nat → Int} {r j : Nat} {S P : Nat → Bool} (h : Ech p M r j S P) (hP : ∀ y, j ≤ y → P y = false) (hS : S j = true) (ht : cnt P j < r)
    (h1 : ∀ i, i < cnt P j → ∀ y, y < j → M' i y = M i y) (h2 : ¬ p ∣ M' (cnt P j) j) (h3 : ∀ i, i < r → cnt P j + 1 ≤ i → p ∣ M' i j)
    (h4 : ∀ y, y < j → S y = true → (∀ i, i < r → cnt P j ≤ i → p ∣ M i y) → ∀ i, i < r → cnt P j ≤ i → p ∣ M' i y) : Ech p M' r (j + 1) S (add1 P j) := by
  have c1 : ∀ y, y ≤ j → cnt (add1 P j) y = cnt P y := fun y hy => cnt_congr (fun z hz => by
    have h5 : z ≠ j := by omega
    simp [add1, h5])
  have c2 : cnt (add1 P j) (j + 1) = cnt P j + 1 := by simp only [cnt]; rw [c1 j (Nat.le_refl _)]; simp [add1]
  refine ⟨fun y hy hPy => ?_, fun y hy hPy => ?_, fun y hy hSy i hi hle => ?_, by rw [c2]; exact ht⟩
  · by_cases e : y = j
    · subst e; exact hS
    · exact h.sub y (by omega) (by simpa [add1, e] using hPy)
  · by_cases e : y = j
    · subst e; rw [c1 y (Nat.le_refl _)]; exact h2
    · have hPy2 : P y = true := by simpa [add1, e] using hPy
      rw [c1 y (by omega), h1 _ (cnt_lt (by omega) hPy2) y (by omega)]
      exact h.piv y (by omega) hPy2
  · by_cases e : y = j
    · subst e; rw [c2] at hle; exact h3 i hi hle
    · rw [c1 (y + 1) (by omega)] at hle
      by_cases hi2 : i < cnt P j
      · rw [h1 i hi2 y (by omega)]; exact h.low y (by omega) hSy i hi hle
      · exact h4 y (by omega) hSy (fun i hi hle => h.low y (by omega) hSy i hi (Nat.le_trans (cnt_mono (by omega)) hle)) i hi (by omega)
theorem spec_l4.loop (p : Int) (hp0 : isFld p = true) (r n : Nat) (hr : r ≤ 8) (hn : n ≤ 8) (s : Nat) (hs : s < 256) (M0 : Nat → Nat → Int) :
    ∀ d j, j + d = n → ∀ (a : List Int) (P : Nat → Bool), Inr p r n a → Sol p r n M0 (mx n a) → Ech p (mx n a) r j (fun y => s.testBit y) P → (∀ y, j ≤ y → P y = false) →
      ∃ (M : Nat → Nat → Int) (P' : Nat → Bool), Sol p r n M0 M ∧ Ech p M r n (fun y => s.testBit y) P' ∧
        Ev (fun k => spec_l4Rank.l0 k p (r : Int) (n : Int) (s : Int) a ((cnt P j : Nat) : Int) (j : Int)) ((cnt P' n : Nat) : Int) := by
  have hpr := prime_of hp0
  have hp : 0 < p ∧ p < 10 := by have := isFld_iff.1 hp0; omega
  intro d
  induction d with
  | zero =>
    intro j hj a P ha hsol hE hP
    have : j = n := by omega
    subst this
    refine ⟨mx j a, P, hsol, hE, Ev.succ ?_⟩
    simp only [spec_l4Rank.l0]
    exact Ev.neg (by omega) (Ev.of rfl)
  | succ d ih =>
    intro j hj a P ha hsol hE hP
    have hjn : j < n := by omega
    have hcj : cnt P (j + 1) = cnt P j := by simp [cnt, hP j (Nat.le_refl _)]
    have hl2 := spec_l2Has.is (s := (s : Int)) (e := (j : Int)) (by omega) (by omega) (by omega) (by omega)
    rw [has_nat] at hl2
    by_cases hS : s.testBit j = true
    · have start : ∀ v, Ev (fun k => spec_l4Rank.l1 k p (r : Int) (n : Int) (s : Int) a ((cnt P j : Nat) : Int) (j : Int) ((cnt P j : Nat) : Int)) v → Ev (fun k => spec_l4Rank.l0 k p (r : Int) (n : Int) (s : Int) a ((cnt P j : Nat) : Int) (j : Int)) v := fun v hv => by
        refine Ev.succ ?_
        simp only [spec_l4Rank.l0]
        refine Ev.pos (by omega) ?_
        rw [hl2]
        simp only [Option.bind_some]
        exact Ev.pos hS hv
      rcases spec_l4.find p r n hr hn (s : Int) (cnt P j) j hjn a ha (r - cnt P j) (cnt P j) (by have := hE.fit; omega) with ⟨i, h1, h2, h3, h4⟩ | ⟨h1, h2⟩
      · have ht : cnt P j < r := by omega
        obtain ⟨a1, b1, b2, b3⟩ := spec_l4.swap p r n hr hn (s : Int) (cnt P j) j i ht h2 n 0 (by omega) a ha
        obtain ⟨a2, e1, e2, e3⟩ := spec_l4.rows p hp r n hr hn (s : Int) (cnt P j) j ht hjn (r - (cnt P j + 1)) (cnt P j + 1) (by omega) (by omega) a1 b1
        have m1 : ∀ x y, x < r → y < n → mx n a1 x y = if x = cnt P j then mx n a i y else if x = i then mx n a (cnt P j) y else mx n a x y := fun x y hx hy => by rw [b2 x y hx hy, if_pos (Nat.zero_le _)]
        have hpiv : mx n a1 (cnt P j) j = mx n a i j := by rw [m1 _ _ ht hjn, if_pos rfl]
        have hg := b1.2 (cnt P j) j ht hjn
        have hgne : ¬ p ∣ mx n a1 (cnt P j) j := not_dvd hg.1 hg.2 (by rw [hpiv]; exact h3)
        have el : ∀ x y, x < r → y < n → cnt P j + 1 ≤ x → p ∣ mx n a2 x y - (mx n a1 (cnt P j) j * mx n a1 x y + (- mx n a1 x j) * mx n a1 (cnt P j) y) := fun x y hx hy hle => by
          rw [e2 x y hx hy, if_pos hle]
          have := (elimE_is hp hg (b1.2 x j hx hjn) (b1.2 x y hx hy) (b1.2 (cnt P j) y ht hy)).2
          rwa [show mx n a1 (cnt P j) j * mx n a1 x y + (- mx n a1 x j) * mx n a1 (cnt P j) y = mx n a1 x y * mx n a1 (cnt P j) j - mx n a1 (cnt P j) y * mx n a1 x j by grind]
        have sol1 : Sol p r n (mx n a) (mx n a1) := Sol.swap (a := cnt P j) (b := i) ht h2 (fun y hy => by rw [m1 _ _ ht hy, if_pos rfl]) (fun y hy => by
          rw [m1 _ _ h2 hy]
          by_cases e : i = cnt P j
          · rw [if_pos e, e]
          · rw [if_neg e, if_pos rfl]) (fun x hx n1 n2 y hy => by rw [m1 _ _ hx hy, if_neg n1, if_neg n2])
        have sol2 : Sol p r n (mx n a1) (mx n a2) := Sol.elim hpr ht (fun x => if cnt P j + 1 ≤ x then mx n a1 (cnt P j) j else 1) (fun x => if cnt P j + 1 ≤ x then - mx n a1 x j else 0) (fun x hx => by
          split
          · exact hgne
          · exact hpr.1) (fun y hy => by
          have h5 : ¬ cnt P j + 1 ≤ cnt P j := by omega
          have h6 := e2 (cnt P j) y ht hy
          rw [if_neg h5] at h6
          show p ∣ mx n a2 (cnt P j) y - (if cnt P j + 1 ≤ cnt P j then mx n a1 (cnt P j) j else 1) * mx n a1 (cnt P j) y
          rw [if_neg h5, h6, Int.one_mul, Int.sub_self]; exact Int.dvd_zero p) (fun x hx hne y hy => by
          by_cases hle : cnt P j + 1 ≤ x
          · simp only [hle, if_true]; exact el x y hx hy hle
          · rw [e2 _ _ hx hy]; simp [hle])
        have hE2 := Ech.step (M' := mx n a2) hE hP hS ht (fun x hx y hy => by
          rw [e2 x y (by omega) (by omega), if_neg (by omega), m1 x y (by omega) (by omega), if_neg (by omega), if_neg (by omega)]) (by
          rw [e2 _ _ ht hjn, if_neg (by omega)]; exact hgne) (fun x hx hle => by
          have h5 := el x j hx hjn hle
          rwa [show mx n a2 x j - (mx n a1 (cnt P j) j * mx n a1 x j + (- mx n a1 x j) * mx n a1 (cnt P j) j) = mx n a2 x j by grind] at h5) (fun y hy hSy hz x hx hle => by
          have z1 : ∀ x, x < r → cnt P j ≤ x → p ∣ mx n a1 x y := fun x hx hle => by
            rw [m1 x y hx (by omega)]
            split
            · exact hz i h2 h1
            · split
              · exact hz _ ht (Nat.le_refl _)
              · exact hz x hx hle
          by_cases hlt : cnt P j + 1 ≤ x
          · have h5 := el x y hx (by omega) hlt
            have h6 : p ∣ mx n a1 (cnt P j) j * mx n a1 x y + (- mx n a1 x j) * mx n a1 (cnt P j) y := Int.dvd_add (Int.dvd_trans (z1 x hx hle) (Int.dvd_mul_left _ _)) (Int.dvd_trans (z1 _ ht (Nat.le_refl _)) (Int.dvd_mul_left _ _))
            have h7 := Int.dvd_add h5 h6
            rwa [Int.sub_add_cancel] at h7
          · rw [e2 x y hx (by omega), if_neg hlt]; exact z1 x hx hle)
        have hcnt : cnt (add1 P j) (j + 1) = cnt P j + 1 := by
          have c1 : cnt (add1 P j) j = cnt P j := cnt_congr (fun z hz => by
            have h5 : z ≠ j := by omega
            simp [add1, h5])
          simp only [cnt]; rw [c1]; simp [add1]
        obtain ⟨M, P', q1, q2, q3⟩ := ih (j + 1) (by omega) a2 (add1 P j) e1 (hsol.trans (sol1.trans sol2)) hE2 (fun y hy => by
          have h5 : y ≠ j := by omega
          simp [add1, h5, hP y (by omega)])
        rw [hcnt] at q3
        exact ⟨M, P', q1, q2, start _ (h4 _ (b3 _ (e3 _ q3)))⟩
      · obtain ⟨M, P', q1, q2, q3⟩ := ih (j + 1) (by omega) a P ha hsol (Ech.skip hE (hP j (Nat.le_refl _)) (fun _ x hx hle => by rw [h1 x hle hx]; exact Int.dvd_zero p)) (fun y hy => hP y (by omega))
        rw [hcj] at q3
        exact ⟨M, P', q1, q2, start _ (h2 _ q3)⟩
    · obtain ⟨M, P', q1, q2, q3⟩ := ih (j + 1) (by omega) a P ha hsol (Ech.skip hE (hP j (Nat.le_refl _)) (fun h => absurd h hS)) (fun y hy => hP y (by omega))
      rw [hcj] at q3
      refine ⟨M, P', q1, q2, Ev.succ ?_⟩
      simp only [spec_l4Rank.l0]
      refine Ev.pos (by omega) ?_
      rw [hl2]
      simp only [Option.bind_some]
      refine Ev.neg hS ?_
      rw [wnext (by omega)]; exact q3
theorem cnt_false (n : Nat) : cnt (fun _ => false) n = 0 := by
  induction n with
  | zero => rfl
  | succ n ih => simp [cnt, ih]
theorem spec_l4Rank.is (p : Int) (hp0 : isFld p = true) (r n : Nat) (hr : r ≤ 8) (hn : n ≤ 8) (s : Nat) (hs : s < 256) (a : List Int) (ha : Inr p r n a) :
    ∃ (M : Nat → Nat → Int) (P' : Nat → Bool), Sol p r n (mx n a) M ∧ Ech p M r n (fun y => s.testBit y) P' ∧
        Ev (fun k => spec_l4Rank.f k p (r : Int) (n : Int) a (s : Int)) ((cnt P' n : Nat) : Int) := by
  obtain ⟨M, P', h1, h2, h3⟩ := spec_l4.loop p hp0 r n hr hn s hs (mx n a) n 0 (by omega) a (fun _ => false) ha (Sol.refl _ _ _ _)
    ⟨fun y hy => absurd hy (by omega), fun y hy => absurd hy (by omega), fun y hy => absurd hy (by omega), by rw [cnt_false]; omega⟩ (fun _ _ => rfl)
  refine ⟨M, P', h1, h2, ?_⟩
  unfold spec_l4Rank.f
  have hlen : a.length ≤ 64 := by
    rw [ha.1]
    exact Nat.mul_le_mul hr hn
  simp only [Option.bind_some, List.nil_append, List.length_nil]
  refine Ev.pos (by omega) ?_
  exact h3
def mr (a : List (List Int)) (x y : Nat) : Int := rd (a.getD x []) (y : Int)
def InR (p : Int) (r n : Nat) (a : List (List Int)) : Prop := a.length = r ∧ (∀ x, x < r → (a.getD x []).length = n) ∧ ∀ x y, x < r → y < n → 0 ≤ mr a x y ∧ mr a x y < p
theorem mr_set {r n : Nat} {a : List (List Int)} (hl : a.length = r) (hn : ∀ x, x < r → (a.getD x []).length = n) {i c : Nat} {v : Int} (hi : i < r) (hc : c < n) :
    (a.set i ((a.getD i []).set c v)).length = r ∧ (∀ x, x < r → ((a.set i ((a.getD i []).set c v)).getD x []).length = n) ∧
    ∀ x y, x < r → y < n → mr (a.set i ((a.getD i []).set c v)) x y = if x = i ∧ y = c then v else mr a x y := by
  have hg : ∀ x, x < r → (a.set i ((a.getD i []).set c v)).getD x [] = if x = i then (a.getD i []).set c v else a.getD x [] := fun x hx => by
    rw [List.getD_eq_getElem?_getD, List.getElem?_set, List.getD_eq_getElem?_getD, List.getD_eq_getElem?_getD]
    by_cases e : i = x
    · subst e; simp [hl, hx]
    · rw [if_neg e, if_neg (fun h => e h.symm)]
  refine ⟨by rw [List.length_set]; exact hl, fun x hx => ?_, fun x y hx hy => ?_⟩
  · rw [hg x hx]
    split
    · rw [List.length_set]; exact hn i hi
    · exact hn x hx
  · unfold mr
    rw [hg x hx]
    by_cases e : x = i
    · subst e
      rw [if_pos rfl, rd_set (by rw [hn x hx]; exact hc) (by rw [hn x hx]; exact hy)]
      by_cases e2 : y = c
      · simp [e2]
      · simp [e2]
    · rw [if_neg e, if_neg (fun h => e h.1)]
def elimI (p g v w : Int) : Int := Int.tmod (wrap64 (v + (wrap64 ((wrap64 (p - g)) * w)))) p
theorem elimI_is {p g v w : Int} (hp : 0 < p ∧ p < 10) (hg : 0 ≤ g ∧ g < p) (hv : 0 ≤ v ∧ v < p) (hw : 0 ≤ w ∧ w < p) :
    (0 ≤ elimI p g v w ∧ elimI p g v w < p) ∧ p ∣ elimI p g v w - (v + (p - g) * w) := by
  have m1 : 0 ≤ (p - g) * w ∧ (p - g) * w ≤ 100 := ⟨Int.mul_nonneg (by omega) hw.1, by
    have := Int.mul_le_mul (show p - g ≤ 10 by omega) (show w ≤ 10 by omega) hw.1 (by decide); omega⟩
  unfold elimI
  rw [w64 (n := p - g) (by omega) (by omega), w64 (n := (p - g) * w) (by omega) (by omega), w64 (by omega) (by omega)]
  exact ⟨⟨Int.tmod_nonneg _ (by omega), Int.tmod_lt_of_pos _ hp.1⟩, tmod_dvd _ _⟩
theorem rd_L1_nat (a : List (List Int)) (i : Nat) : rd_L1 a (i : Int) = a.getD i [] := rfl
theorem impl_red.row (p : Int) (hp : 0 < p ∧ p < 10) (r n : Nat) (hr : r ≤ 8) (hn : n ≤ 8) (x1 x2 : Int) (cells piv : List Int) (t j u : Nat) (ht : t < r) (hu : u < r) (hut : u ≠ t) (g : Int) (hg : 0 ≤ g ∧ g < p) :
    ∀ d c, c + d = n → ∀ a, InR p r n a → ∃ a', InR p r n a' ∧ (∀ x y, x < r → y < n → mr a' x y = if x = u ∧ c ≤ y then elimI p g (mr a u y) (mr a t y) else mr a x y) ∧
      ∀ v, Ev (fun k => impl_reduce.l4 k a' piv (j : Int) (t : Int) (r : Int) ((u + 1 : Nat) : Int) p x1 (n : Int) cells) v → Ev (fun k => impl_reduce.l5 k a piv (j : Int) (t : Int) (u : Int) g (c : Int) (r : Int) (u : Int) p x1 (n : Int) cells) v := by
  intro d
  induction d with
  | zero =>
    intro c hc a ha
    refine ⟨a, ha, fun x y hx hy => by rw [if_neg (by omega)], fun v hv => Ev.succ ?_⟩
    simp only [impl_reduce.l5]
    refine Ev.neg (by omega) ?_
    rw [wnext (by omega)]; exact hv
  | succ d ih =>
    intro c hc a ha
    have hcn : c < n := by omega
    have hE := elimI_is hp hg (ha.2.2 u c hu hcn) (ha.2.2 t c ht hcn)
    obtain ⟨s1, s2, s3⟩ := mr_set (v := elimI p g (mr a u c) (mr a t c)) ha.1 ha.2.1 hu hcn
    have hI : InR p r n (a.set u ((a.getD u []).set c (elimI p g (mr a u c) (mr a t c)))) := by
      refine ⟨s1, s2, fun x y hx hy => ?_⟩
      rw [s3 x y hx hy]
      split
      · exact hE.1
      · exact ha.2.2 x y hx hy
    obtain ⟨a', h1, h2, h3⟩ := ih (c + 1) (by omega) _ hI
    refine ⟨a', h1, fun x y hx hy => ?_, fun v hv => Ev.succ ?_⟩
    · rw [h2 x y hx hy, s3 u y hu hy, s3 t y ht hy, s3 x y hx hy]
      by_cases hxu : x = u
      · subst hxu
        by_cases hyc : y = c
        · subst hyc; simp; omega
        · by_cases hle : c ≤ y
          · have h5 : c + 1 ≤ y := by omega
            simp [hle, h5, hyc]
          · have h5 : ¬ c + 1 ≤ y := by omega
            simp [hle, h5, hyc]
      · simp [hxu]
    · simp only [impl_reduce.l5]
      have l1 := ha.2.1 u hu
      have l2 := ha.2.1 t ht
      have l3 := ha.1
      simp only [rd_L1_nat]
      refine Ev.pos (by omega) (Ev.neg (by omega) (Ev.pos (by omega) (Ev.pos (by omega) (Ev.pos (by omega) (Ev.pos (by omega) (Ev.pos (by omega) (Ev.pos (by omega) (Ev.pos (by omega) (Ev.neg (by omega) ?_)))))))))
      rw [wnext (by omega)]
      exact h3 v hv
end Go.Proofs.Ytbhckhblonkajaa.Q
