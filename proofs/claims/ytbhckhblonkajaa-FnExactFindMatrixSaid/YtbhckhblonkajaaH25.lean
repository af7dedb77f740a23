/- Part of a proof: contracts and lemmas that the row's text uses; joined by a program. -/
import Derived.Test.YtbhckhblonkajaaH04
import Derived.Test.YtbhckhblonkajaaH07
import Derived.Test.YtbhckhblonkajaaH08
import Derived.Test.YtbhckhblonkajaaH10
import Derived.Test.YtbhckhblonkajaaH15
import Derived.Test.YtbhckhblonkajaaH23
import Derived.Test.YtbhckhblonkajaaH24
set_option linter.unusedVariables false
set_option linter.unusedSimpArgs false
namespace Go.Proofs.Ytbhckhblonkajaa.Q
open Go.RowKit Go.Proofs.YtbhckhblonkajaaW.PrintWords Go.Proofs.YtbhckhblonkajaaW.PrintLast Go.Proofs.YtbhckhblonkajaaW.PrintMore
open Go.Proofs.Lin
theorem impl_red.rows (p : Int) (hp : 0 < p ∧ p < 10) (r n : Nat) (hr : r ≤ 8) (hn : n ≤ 8) (x1 : Int) (cells piv : List Int) (hpl : piv.length < 100) (t j : Nat) (ht : t < r) (hj : j < n) :
    ∀ d u, u + d = r → ∀ a, InR p r n a → ∃ a', InR p r n a' ∧ (∀ x y, x < r → y < n → mr a' x y = if x ≠ t ∧ u ≤ x then elimI p (mr a x j) (mr a x y) (mr a t y) else mr a x y) ∧
      ∀ v, Ev (fun k => impl_reduce.l1 k a' (piv ++ [(j : Int)]) ((j + 1 : Nat) : Int) p x1 (n : Int) cells) v → Ev (fun k => impl_reduce.l4 k a piv (j : Int) (t : Int) (r : Int) (u : Int) p x1 (n : Int) cells) v := by
  intro d
  induction d with
  | zero =>
    intro u hu a ha
    refine ⟨a, ha, fun x y hx hy => by rw [if_neg (by omega)], fun v hv => Ev.succ ?_⟩
    simp only [impl_reduce.l4]
    refine Ev.neg (by omega) (Ev.pos (by omega) ?_)
    rw [wnext (by omega)]; exact hv
  | succ d ih =>
    intro u hu a ha
    have hur : u < r := by omega
    have l1 := ha.2.1 u hur
    have l3 := ha.1
    have enter : ∀ v, Ev (fun k => impl_reduce.l5 k a piv (j : Int) (t : Int) (u : Int) (mr a u j) 0 (r : Int) (u : Int) p x1 (n : Int) cells) v → Ev (fun k => impl_reduce.l4 k a piv (j : Int) (t : Int) (r : Int) (u : Int) p x1 (n : Int) cells) v := fun v hv => by
      refine Ev.succ ?_
      simp only [impl_reduce.l4]
      simp only [rd_L1_nat]
      exact Ev.pos (by omega) (Ev.pos (by omega) (Ev.pos (by omega) (Ev.pos (by omega) (Ev.pos (by omega) hv))))
    by_cases hut : u = t
    · obtain ⟨a', h1, h2, h3⟩ := ih (u + 1) (by omega) a ha
      refine ⟨a', h1, fun x y hx hy => ?_, fun v hv => enter v (Ev.succ ?_)⟩
      · rw [h2 x y hx hy]
        by_cases hx2 : x ≠ t ∧ u ≤ x
        · rw [if_pos hx2, if_pos ⟨hx2.1, by omega⟩]
        · rw [if_neg hx2, if_neg (by omega)]
      · simp only [impl_reduce.l5]
        refine Ev.pos (by omega) (Ev.pos (by omega) ?_)
        rw [wnext (by omega)]; exact h3 v hv
    · obtain ⟨a1, b1, b2, b3⟩ := impl_red.row p hp r n hr hn x1 0 cells piv t j u ht hur hut (mr a u j) (ha.2.2 u j hur hj) n 0 (by omega) a ha
      obtain ⟨a', h1, h2, h3⟩ := ih (u + 1) (by omega) a1 b1
      have et : ∀ y, y < n → mr a1 t y = mr a t y := fun y hy => by rw [b2 t y ht hy, if_neg (by omega)]
      refine ⟨a', h1, fun x y hx hy => ?_, fun v hv => enter v (b3 v (h3 v hv))⟩
      rw [h2 x y hx hy, et y hy]
      by_cases hxu : x = u
      · subst hxu
        rw [if_neg (by omega), if_pos ⟨hut, Nat.le_refl _⟩, b2 x y hx hy, if_pos ⟨rfl, Nat.zero_le _⟩]
      · have e3 : mr a1 x y = mr a x y := by rw [b2 x y hx hy, if_neg (fun h => hxu h.1)]
        have e4 : mr a1 x j = mr a x j := by rw [b2 x j hx hj, if_neg (fun h => hxu h.1)]
        rw [e3, e4]
        by_cases hx2 : x ≠ t ∧ u ≤ x
        · rw [if_pos hx2, if_pos ⟨hx2.1, by omega⟩]
        · rw [if_neg hx2, if_neg (by omega)]
def scaleI (p f v : Int) : Int := Int.tmod (wrap64 (v * f)) p
theorem scaleI_is {p f v : Int} (hp : 0 < p ∧ p < 10) (hf : 0 ≤ f ∧ f < p) (hv : 0 ≤ v ∧ v < p) : (0 ≤ scaleI p f v ∧ scaleI p f v < p) ∧ p ∣ scaleI p f v - f * v := by
  have m1 : 0 ≤ v * f ∧ v * f ≤ 100 := ⟨Int.mul_nonneg hv.1 hf.1, by
    have := Int.mul_le_mul (show v ≤ 10 by omega) (show f ≤ 10 by omega) hf.1 (by decide); omega⟩
  unfold scaleI
  rw [w64 (n := v * f) (by omega) (by omega)]
  refine ⟨⟨Int.tmod_nonneg _ (by omega), Int.tmod_lt_of_pos _ hp.1⟩, ?_⟩
  rw [Int.mul_comm f v]; exact tmod_dvd _ _
theorem impl_red.scale (p : Int) (hp : 0 < p ∧ p < 10) (r n : Nat) (hr : r ≤ 8) (hn : n ≤ 8) (x1 : Int) (cells piv : List Int) (t j : Nat) (ht : t < r) (f : Int) (hf : 0 ≤ f ∧ f < p) :
    ∀ d c, c + d = n → ∀ a, InR p r n a → ∃ a', InR p r n a' ∧ (∀ x y, x < r → y < n → mr a' x y = if x = t ∧ c ≤ y then scaleI p f (mr a t y) else mr a x y) ∧
      ∀ v, Ev (fun k => impl_reduce.l4 k a' piv (j : Int) (t : Int) (r : Int) 0 p x1 (n : Int) cells) v → Ev (fun k => impl_reduce.l3 k a piv (j : Int) (t : Int) f (n : Int) (c : Int) p x1 (n : Int) cells) v := by
  intro d
  induction d with
  | zero =>
    intro c hc a ha
    refine ⟨a, ha, fun x y hx hy => by rw [if_neg (by omega)], fun v hv => Ev.succ ?_⟩
    simp only [impl_reduce.l3]
    refine Ev.neg (by omega) ?_
    rw [ha.1]; exact hv
  | succ d ih =>
    intro c hc a ha
    have hcn : c < n := by omega
    have hE := scaleI_is hp hf (ha.2.2 t c ht hcn)
    obtain ⟨s1, s2, s3⟩ := mr_set (v := scaleI p f (mr a t c)) ha.1 ha.2.1 ht hcn
    have hI : InR p r n (a.set t ((a.getD t []).set c (scaleI p f (mr a t c)))) := by
      refine ⟨s1, s2, fun x y hx hy => ?_⟩
      rw [s3 x y hx hy]
      split
      · exact hE.1
      · exact ha.2.2 x y hx hy
    obtain ⟨a', h1, h2, h3⟩ := ih (c + 1) (by omega) _ hI
    refine ⟨a', h1, fun x y hx hy => ?_, fun v hv => Ev.succ ?_⟩
    · rw [h2 x y hx hy, s3 t y ht hy, s3 x y hx hy]
      by_cases hxu : x = t
      · subst hxu
        by_cases hyc : y = c
        · subst hyc; simp; omega
        · by_cases hle : c ≤ y
          · have h5 : c + 1 ≤ y := by omega
            simp [hle, h5, hyc]
          · have h5 : ¬ c + 1 ≤ y := by omega
            simp [hle, h5, hyc]
      · simp [hxu]
    · simp only [impl_reduce.l3]
      have l2 := ha.2.1 t ht
      have l3 := ha.1
      simp only [rd_L1_nat]
      refine Ev.pos (by omega) (Ev.pos (by omega) (Ev.pos (by omega) (Ev.pos (by omega) (Ev.pos (by omega) (Ev.neg (by omega) ?_)))))
      rw [wnext (by omega)]
      exact h3 v hv
theorem Ev.mono {α : Type} {f : Nat → Option α} {v : α} (hm : ∀ k w, f k = some w → f (k + 1) = some w) {k0 : Nat} (h : f k0 = some v) : Ev f v := by
  refine ⟨k0, fun k hk => ?_⟩
  obtain ⟨m, rfl⟩ : ∃ m, k = k0 + m := ⟨k - k0, by omega⟩
  clear hk
  induction m with
  | zero => exact h
  | succ m ih => exact hm _ _ ih
theorem impl_InverseIn.is {p v : Int} (hp : isFld p = true) (hv : 0 < v ∧ v < p) : ∃ f, (0 ≤ f ∧ f < p) ∧ Int.tmod (v * f) p = 1 ∧ Ev (fun k => impl_InverseIn.f k p v) f := by
  have key : ∀ q : Fin 8, (q.val = 2 ∨ q.val = 3 ∨ q.val = 5 ∨ q.val = 7) → ∀ v : Fin 8, 0 < v.val → v.val < q.val → ∃ f : Fin 8, f.val < q.val ∧ Int.tmod ((v.val : Int) * f.val) q.val = 1 ∧ impl_InverseIn.f 12 (q.val : Int) (v.val : Int) = some (f.val : Int) := by decide +kernel
  have h1 := isFld_iff.1 hp
  obtain ⟨f, h2, h3, h4⟩ := key ⟨p.toNat, by omega⟩ (by simp only; omega) ⟨v.toNat, by omega⟩ (by simp only; omega) (by simp only; omega)
  simp only at h2 h3 h4
  rw [Int.toNat_of_nonneg (by omega), Int.toNat_of_nonneg (by omega)] at h3 h4
  exact ⟨f.val, by omega, h3, Ev.mono (fun k w h => impl_InverseIn.mono p v k w h) h4⟩
theorem swapList_getD {α : Type} {xs : List α} {i j : Nat} {z : α} (hi : i < xs.length) (hj : j < xs.length) {k : Nat} : (swapList xs i j z).getD k z = xs.getD (if k = i then j else if k = j then i else k) z := by
  rw [List.getD_eq_getElem?_getD, swapList_get xs i j z hi hj, List.getD_eq_getElem?_getD]
theorem InR.swap {p : Int} {r n : Nat} {a : List (List Int)} (ha : InR p r n a) {t i : Nat} (ht : t < r) (hi : i < r) : InR p r n (swapList a t i []) ∧ ∀ x y, x < r → y < n → mr (swapList a t i []) x y = if x = t then mr a i y else if x = i then mr a t y else mr a x y := by
  have hg : ∀ x, (swapList a t i []).getD x [] = a.getD (if x = t then i else if x = i then t else x) [] := fun x => swapList_getD (by rw [ha.1]; exact ht) (by rw [ha.1]; exact hi)
  have hm : ∀ x y, x < r → y < n → mr (swapList a t i []) x y = if x = t then mr a i y else if x = i then mr a t y else mr a x y := fun x y hx hy => by
    unfold mr
    rw [hg x]
    by_cases h1 : x = t
    · simp [h1]
    · by_cases h2 : x = i
      · subst h2; simp [h1]
      · simp [h1, h2]
  refine ⟨⟨by rw [swapList_length]; exact ha.1, fun x hx => ?_, fun x y hx hy => ?_⟩, hm⟩
  · rw [hg x]
    by_cases h1 : x = t
    · rw [if_pos h1]; exact ha.2.1 i hi
    · rw [if_neg h1]
      by_cases h2 : x = i
      · rw [if_pos h2]; exact ha.2.1 t ht
      · rw [if_neg h2]; exact ha.2.1 x hx
  · rw [hm x y hx hy]
    split
    · exact ha.2.2 i y hi hy
    · split
      · exact ha.2.2 t y ht hy
      · exact ha.2.2 x y hx hy
theorem impl_red.find (p : Int) (r n : Nat) (hr : r ≤ 8) (hn : n ≤ 8) (x1 : Int) (cells piv : List Int) (t j : Nat) (hj : j < n) (a : List (List Int)) (ha : InR p r n a) :
    ∀ d i, i + d = r →
      (∃ i', i ≤ i' ∧ i' < r ∧ mr a i' j ≠ 0 ∧ ∀ v, Ev (fun k => impl_reduce.j3 k a piv (j : Int) (t : Int) (i' : Int) p x1 (n : Int) cells) v → Ev (fun k => impl_reduce.l2 k a piv (j : Int) (t : Int) (i : Int) p x1 (n : Int) cells) v) ∨
      ((∀ x, i ≤ x → x < r → mr a x j = 0) ∧ ∀ v, Ev (fun k => impl_reduce.l1 k a piv ((j + 1 : Nat) : Int) p x1 (n : Int) cells) v → Ev (fun k => impl_reduce.l2 k a piv (j : Int) (t : Int) (i : Int) p x1 (n : Int) cells) v) := by
  have hl := ha.1
  intro d
  induction d with
  | zero =>
    intro i hi
    refine .inr ⟨fun x h1 h2 => by omega, fun v hv => Ev.succ ?_⟩
    simp only [impl_reduce.l2]
    refine Ev.neg (by omega) (Ev.succ ?_)
    simp only [impl_reduce.j3]
    refine Ev.pos (by omega) ?_
    rw [wnext (by omega)]; exact hv
  | succ d ih =>
    intro i hi
    have hir : i < r := by omega
    have hln := ha.2.1 i hir
    by_cases h0 : mr a i j = 0
    · have step : ∀ v, Ev (fun k => impl_reduce.l2 k a piv (j : Int) (t : Int) ((i + 1 : Nat) : Int) p x1 (n : Int) cells) v → Ev (fun k => impl_reduce.l2 k a piv (j : Int) (t : Int) (i : Int) p x1 (n : Int) cells) v := fun v hv => by
        refine Ev.succ ?_
        simp only [impl_reduce.l2]
        simp only [rd_L1_nat]
        refine Ev.pos (by omega) (Ev.pos (by omega) (Ev.pos (by omega) (Ev.pos (by omega) (Ev.pos h0 ?_))))
        rw [wnext (by omega)]; exact hv
      rcases ih (i + 1) (by omega) with ⟨i', h1, h2, h3, h4⟩ | ⟨h1, h2⟩
      · exact .inl ⟨i', by omega, h2, h3, fun v hv => step v (h4 v hv)⟩
      · refine .inr ⟨fun x h3 h4 => ?_, fun v hv => step v (h2 v hv)⟩
        by_cases e : x = i
        · subst e; exact h0
        · exact h1 x (by omega) h4
    · refine .inl ⟨i, Nat.le_refl _, hir, h0, fun v hv => Ev.succ ?_⟩
      simp only [impl_reduce.l2]
      simp only [rd_L1_nat]
      exact Ev.pos (by omega) (Ev.pos (by omega) (Ev.pos (by omega) (Ev.pos (by omega) (Ev.neg h0 hv))))
theorem zero_of_dvd {p v : Int} (hv : 0 ≤ v ∧ v < p) (h : p ∣ v) : v = 0 := by
  obtain ⟨c, rfl⟩ := h
  by_cases h0 : c = 0
  · subst h0; simp
  · exfalso
    rcases Int.lt_or_gt_of_ne h0 with h1 | h1
    · have := Int.mul_neg_of_pos_of_neg (show 0 < p by omega) h1; omega
    · have := Int.mul_le_mul_of_nonneg_left (show 1 ≤ c by omega) (show 0 ≤ p by omega); omega
theorem elimI_zero {p g v : Int} (hp : 0 < p ∧ p < 10) (hv : 0 ≤ v ∧ v < p) : elimI p g v 0 = v := by
  unfold elimI
  rw [Int.mul_zero, show wrap64 0 = 0 from w64 (by decide) (by decide), Int.add_zero, w64 (by omega) (by omega), Int.tmod_eq_of_lt hv.1 hv.2]
theorem scaleI_zero {p f : Int} : scaleI p f 0 = 0 := by
  unfold scaleI
  rw [Int.zero_mul, show wrap64 0 = 0 from w64 (by decide) (by decide), Int.zero_tmod]
theorem impl_red.last (p x1 : Int) (n r : Nat) (hr : r ≤ 8) (hn : n ≤ 8) (piv : List Int) (a : List (List Int)) (hl : a.length = r) (hx : ∀ x, x < r → (a.getD x []).length = n) : ∀ d i, i + d = r → ∀ c, c.length ≤ i * n →
    ∃ c', Ev (fun k => impl_reduce.l6 k piv a (r : Int) (i : Int) p x1 (n : Int) c) (p, x1, (n : Int), c', piv) := by
  intro d
  induction d with
  | zero =>
    intro i hi c hc
    refine ⟨c, Ev.succ ?_⟩
    simp only [impl_reduce.l6]
    exact Ev.neg (by omega) (Ev.of rfl)
  | succ d ih =>
    intro i hi c hc
    have hir : i < r := by omega
    have hxi := hx i hir
    have hin : (i + 1) * n ≤ 8 * 8 := Nat.mul_le_mul (by omega) hn
    have hin1 : (i + 1) * n = i * n + n := by rw [Nat.add_mul, Nat.one_mul]
    obtain ⟨c', h⟩ := ih (i + 1) (by omega) (c ++ a.getD i []) (by rw [List.length_append, hxi]; omega)
    refine ⟨c', Ev.succ ?_⟩
    simp only [impl_reduce.l6]
    simp only [rd_L1_nat]
    refine Ev.pos (by omega) (Ev.pos (by omega) (Ev.pos (by omega) (Ev.pos (by omega) ?_)))
    rw [wnext (by omega)]; exact h
theorem impl_red.loop (p : Int) (hp0 : isFld p = true) (r n : Nat) (hr : r ≤ 8) (hn : n ≤ 8) (x1 : Int) (cells : List Int) (M0 : Nat → Nat → Int) :
    ∀ d j, j + d = n → ∀ (a : List (List Int)) (P : Nat → Bool) (piv : List Int), InR p r n a → Sol p r n M0 (mr a) → Ech p (mr a) r j (fun _ => true) P → (∀ y, j ≤ y → P y = false) → piv.length = cnt P j →
      ∃ (M : Nat → Nat → Int) (P' : Nat → Bool) (c' piv' : List Int), Sol p r n M0 M ∧ Ech p M r n (fun _ => true) P' ∧ piv'.length = cnt P' n ∧
        Ev (fun k => impl_reduce.l1 k a piv (j : Int) p x1 (n : Int) cells) (p, (piv'.length : Int), (n : Int), c', piv') := by
  have hpr := prime_of hp0
  have hp : 0 < p ∧ p < 10 := by have := isFld_iff.1 hp0; omega
  intro d
  induction d with
  | zero =>
    intro j hj a P piv ha hsol hE hP hpl
    have : j = n := by omega
    subst this
    have hfit := hE.fit
    obtain ⟨c', h⟩ := impl_red.last p (piv.length : Int) j piv.length (by omega) hn piv (a.take piv.length) (by rw [List.length_take, ha.1]; omega) (fun x hx => by
      have := ha.2.1 x (by omega)
      rw [List.getD_eq_getElem?_getD, List.getElem?_take] at *
      rw [if_pos hx]; exact this) piv.length 0 (by omega) [] (by simp)
    refine ⟨mr a, P, c', piv, hsol, hE, hpl, Ev.succ ?_⟩
    simp only [impl_reduce.l1]
    have hl := ha.1
    refine Ev.neg (by omega) (Ev.pos (by omega) (Ev.pos (by omega) ?_))
    simp only [Option.bind_some]
    rw [show ((piv.length : Int)).toNat = piv.length by omega, show ((a.take piv.length).length : Int) = (piv.length : Int) by rw [List.length_take, hl]; omega]
    exact h
  | succ d ih =>
    intro j hj a P piv ha hsol hE hP hpl
    have hjn : j < n := by omega
    have hcj : cnt P (j + 1) = cnt P j := by simp [cnt, hP j (Nat.le_refl _)]
    have hfit := hE.fit
    have hpl100 : piv.length < 100 := by omega
    have start : ∀ v, Ev (fun k => impl_reduce.l2 k a piv (j : Int) ((cnt P j : Nat) : Int) ((cnt P j : Nat) : Int) p x1 (n : Int) cells) v → Ev (fun k => impl_reduce.l1 k a piv (j : Int) p x1 (n : Int) cells) v := fun v hv => by
      refine Ev.succ ?_
      simp only [impl_reduce.l1]
      refine Ev.pos (by omega) ?_
      rw [hpl]; exact hv
    rcases impl_red.find p r n hr hn x1 cells piv (cnt P j) j hjn a ha (r - cnt P j) (cnt P j) (by omega) with ⟨i, h1, h2, h3, h4⟩ | ⟨h1, h2⟩
    · have ht : cnt P j < r := by omega
      obtain ⟨b1, m1⟩ := ha.swap ht h2
      have hpv : mr (swapList a (cnt P j) i []) (cnt P j) j = mr a i j := by rw [m1 _ _ ht hjn, if_pos rfl]
      have hij := ha.2.2 i j h2 hjn
      obtain ⟨f, f1, f2, f3⟩ := impl_InverseIn.is (v := mr a i j) hp0 (by omega)
      obtain ⟨a2, b2, m2, s2⟩ := impl_red.scale p hp r n hr hn x1 cells piv (cnt P j) j ht f f1 n 0 (by omega) _ b1
      obtain ⟨a3, b3, m3, s3⟩ := impl_red.rows p hp r n hr hn x1 cells piv hpl100 (cnt P j) j ht hjn r 0 (by omega) a2 b2
      have n1 : ∀ x y, x < r → y < n → mr a2 x y = if x = cnt P j then scaleI p f (mr a i y) else if x = i then mr a (cnt P j) y else mr a x y := fun x y hx hy => by
        rw [m2 x y hx hy, m1 x y hx hy, m1 _ y ht hy, if_pos rfl]
        by_cases e : x = cnt P j
        · simp [e]
        · simp [e]
      have n3 : ∀ x y, x < r → y < n → mr a3 x y = if x = cnt P j then mr a2 x y else elimI p (mr a2 x j) (mr a2 x y) (mr a2 (cnt P j) y) := fun x y hx hy => by
        rw [m3 x y hx hy]
        by_cases e : x = cnt P j
        · simp [e]
        · simp [e]
      have hvf : 0 ≤ mr a i j * f ∧ mr a i j * f ≤ 100 := ⟨Int.mul_nonneg hij.1 f1.1, by
        have := Int.mul_le_mul (show mr a i j ≤ 10 by omega) (show f ≤ 10 by omega) f1.1 (by decide); omega⟩
      have hone : mr a2 (cnt P j) j = 1 := by
        rw [n1 _ _ ht hjn, if_pos rfl]
        unfold scaleI
        rw [w64 (by omega) (by omega)]; exact f2
      have hfp : ¬ p ∣ f := fun hd => by
        have h5 : p ∣ mr a i j * f := Int.dvd_trans hd (Int.dvd_mul_left _ _)
        have h6 := Int.emod_emod_of_dvd
        have h7 : Int.tmod (mr a i j * f) p = 0 := Int.tmod_eq_zero_of_dvd h5
        omega
      have el : ∀ x y, x < r → y < n → x ≠ cnt P j → p ∣ mr a3 x y - (1 * mr a2 x y + (p - mr a2 x j) * mr a2 (cnt P j) y) := fun x y hx hy hne => by
        rw [n3 x y hx hy, if_neg hne, Int.one_mul]
        exact (elimI_is hp (b2.2.2 x j hx hjn) (b2.2.2 x y hx hy) (b2.2.2 _ y ht hy)).2
      have sol1 : Sol p r n (mr a) (mr (swapList a (cnt P j) i [])) := Sol.swap (a := cnt P j) (b := i) ht h2 (fun y hy => by rw [m1 _ _ ht hy, if_pos rfl]) (fun y hy => by
        rw [m1 _ _ h2 hy]
        by_cases e : i = cnt P j
        · rw [if_pos e, e]
        · rw [if_neg e, if_pos rfl]) (fun x hx q1 q2 y hy => by rw [m1 _ _ hx hy, if_neg q1, if_neg q2])
      have sol2 : Sol p r n (mr (swapList a (cnt P j) i [])) (mr a2) := Sol.elim hpr ht (fun x => if x = cnt P j then f else 1) (fun _ => 0) (fun x hx => by
        split
        · exact hfp
        · exact hpr.1) (fun y hy => by
        simp only [if_true]
        rw [m2 _ y ht hy, if_pos ⟨rfl, Nat.zero_le _⟩]
        exact (scaleI_is hp f1 (b1.2.2 _ y ht hy)).2) (fun x hx hne y hy => by
        simp only [hne, if_false]
        rw [m2 x y hx hy, if_neg (fun h => hne h.1)]
        rw [show mr (swapList a (cnt P j) i []) x y - (1 * mr (swapList a (cnt P j) i []) x y + 0 * mr (swapList a (cnt P j) i []) (cnt P j) y) = 0 by grind]; exact Int.dvd_zero p)
      have sol3 : Sol p r n (mr a2) (mr a3) := Sol.elim hpr ht (fun _ => 1) (fun x => p - mr a2 x j) (fun _ _ => hpr.1) (fun y hy => by
        rw [n3 _ y ht hy, if_pos rfl, Int.one_mul, Int.sub_self]; exact Int.dvd_zero p) (fun x hx hne y hy => el x y hx hy hne)
      have zt : ∀ y, y < j → mr a i y = 0 := fun y hy => zero_of_dvd (ha.2.2 i y h2 (by omega)) (hE.low y hy rfl i h2 (Nat.le_trans (cnt_mono (by omega)) h1))
      have hE3 := Ech.step (M' := mr a3) hE hP rfl ht (fun x hx y hy => by
        have hxr : x < r := by omega
        have hyn : y < n := by omega
        rw [n3 x y hxr hyn, if_neg (by omega), n1 _ y ht hyn, if_pos rfl, zt y hy, scaleI_zero, elimI_zero hp (b2.2.2 x y hxr hyn), n1 x y hxr hyn, if_neg (by omega), if_neg (by omega)]) (by
        rw [n3 _ _ ht hjn, if_pos rfl, hone]; exact hpr.1) (fun x hx hle => by
        have h5 := el x j hx hjn (by omega)
        rw [hone, show mr a3 x j - (1 * mr a2 x j + (p - mr a2 x j) * 1) = mr a3 x j - p by grind] at h5
        have h6 := Int.dvd_add h5 (Int.dvd_refl p)
        rwa [Int.sub_add_cancel] at h6) (fun y hy hSy hz x hx hle => by
        have hyn : y < n := by omega
        have z2 : mr a2 (cnt P j) y = 0 := by rw [n1 _ y ht hyn, if_pos rfl, zt y hy, scaleI_zero]
        rw [n3 x y hx hyn]
        by_cases e : x = cnt P j
        · rw [if_pos e, e, z2]; exact Int.dvd_zero p
        · rw [if_neg e, z2, elimI_zero hp (b2.2.2 x y hx hyn), n1 x y hx hyn, if_neg e]
          split
          · exact hz _ ht (Nat.le_refl _)
          · exact hz x hx hle)
      have hcnt : cnt (add1 P j) (j + 1) = cnt P j + 1 := by
        have c1 : cnt (add1 P j) j = cnt P j := cnt_congr (fun z hz => by
          have h5 : z ≠ j := by omega
          simp [add1, h5])
        simp only [cnt]; rw [c1]; simp [add1]
      obtain ⟨M, P', c', piv', q1, q2, q3, q4⟩ := ih (j + 1) (by omega) a3 (add1 P j) (piv ++ [(j : Int)]) b3 (hsol.trans (sol1.trans (sol2.trans sol3))) hE3 (fun y hy => by
        have h5 : y ≠ j := by omega
        simp [add1, h5, hP y (by omega)]) (by rw [hcnt]; simp [hpl])
      refine ⟨M, P', c', piv', q1, q2, q3, start _ (h4 _ (Ev.succ ?_))⟩
      have l0 := ha.1
      have l1 := b1.1
      have l2 := b1.2.1 _ ht
      simp only [impl_reduce.j3]
      refine Ev.neg (by omega) ?_
      rw [show swapRows.f a ((cnt P j : Nat) : Int) (i : Int) = some (swapList a (cnt P j) i []) by
        unfold swapRows.f
        rw [if_pos (by omega)]
        rfl]
      simp only [Option.bind_some]
      simp only [rd_L1_nat]
      refine Ev.pos (by omega) (Ev.pos (by omega) (Ev.pos (by omega) (Ev.pos (by omega) (Ev.bind (v := f) ?_ ?_))))
      · have e : rd ((swapList a (cnt P j) i []).getD (cnt P j) []) (j : Int) = mr a i j := hpv
        rw [e]; exact f3
      · rw [l2]; exact s2 _ (s3 _ q4)
    · obtain ⟨M, P', c', piv', q1, q2, q3, q4⟩ := ih (j + 1) (by omega) a P piv ha hsol (Ech.skip hE (hP j (Nat.le_refl _)) (fun _ x hx hle => by rw [h1 x hle hx]; exact Int.dvd_zero p)) (fun y hy => hP y (by omega)) (by rw [hcj]; exact hpl)
      exact ⟨M, P', c', piv', q1, q2, q3, start _ (h2 _ q4)⟩
def rowOf (n : Nat) (cells : List Int) (x : Nat) : List Int := (cells.take ((x + 1) * n)).drop (x * n)
theorem rowOf_length {r n x : Nat} {cells : List Int} (hl : cells.length = r * n) (hx : x < r) : (rowOf n cells x).length = n := by
  have h : (x + 1) * n ≤ r * n := Nat.mul_le_mul_right n hx
  have h2 : (x + 1) * n = x * n + n := by rw [Nat.add_mul, Nat.one_mul]
  unfold rowOf
  rw [List.length_drop, List.length_take]; omega
theorem rowOf_rd {r n x y : Nat} {cells : List Int} (hl : cells.length = r * n) (hx : x < r) (hy : y < n) : rd (rowOf n cells x) (y : Int) = mx n cells x y := by
  have h := idx_lt hx hy
  have h2 : (x + 1) * n = x * n + n := by rw [Nat.add_mul, Nat.one_mul]
  unfold mx
  rw [rd_nat (by rw [rowOf_length hl hx]; exact hy), rd_nat (by rw [hl]; exact h)]
  unfold rowOf
  rw [List.getElem_drop, List.getElem_take]
theorem wmul {a b : Nat} (h : a * b ≤ 64) : wrap64 ((a : Int) * (b : Int)) = ((a * b : Nat) : Int) := by
  rw [show (a : Int) * (b : Int) = ((a * b : Nat) : Int) by simp]; exact w64 (by omega) (by omega)
theorem impl_red.start (p : Int) (r n : Nat) (hr : r ≤ 8) (hn : n ≤ 8) (cells : List Int) (hl : cells.length = r * n) : ∀ d i, i + d = r → ∀ a : List (List Int), a.length = i → (∀ x, x < i → a.getD x [] = rowOf n cells x) →
    ∃ a' : List (List Int), a'.length = r ∧ (∀ x, x < r → a'.getD x [] = rowOf n cells x) ∧
      ∀ v, Ev (fun k => impl_reduce.l1 k a' [] 0 p (r : Int) (n : Int) cells) v → Ev (fun k => impl_reduce.l0 k a (i : Int) p (r : Int) (n : Int) cells) v := by
  intro d
  induction d with
  | zero =>
    intro i hi a ha hx
    have : i = r := by omega
    subst this
    refine ⟨a, ha, hx, fun v hv => Ev.succ ?_⟩
    simp only [impl_reduce.l0]
    exact Ev.neg (by omega) hv
  | succ d ih =>
    intro i hi a ha hx
    have hir : i < r := by omega
    obtain ⟨a', h1, h2, h3⟩ := ih (i + 1) (by omega) (a ++ [rowOf n cells i]) (by simp [ha]) (fun x hx2 => by
      by_cases e : x = i
      · subst e; rw [List.getD_eq_getElem?_getD, List.getElem?_append_right (by omega), ha]; simp
      · rw [List.getD_eq_getElem?_getD, List.getElem?_append_left (by omega), ← List.getD_eq_getElem?_getD]; exact hx x (by omega))
    refine ⟨a', h1, h2, fun v hv => Ev.succ ?_⟩
    have m1 : i * n ≤ 8 * 8 := Nat.mul_le_mul (by omega) hn
    have m2 : (i + 1) * n ≤ 8 * 8 := Nat.mul_le_mul (by omega) hn
    have m3 : (i + 1) * n ≤ r * n := Nat.mul_le_mul_right n hir
    have m4 : (i + 1) * n = i * n + n := by rw [Nat.add_mul, Nat.one_mul]
    have c1 : (0 : Int) ≤ ((i * n : Nat) : Int) := Int.natCast_nonneg _
    have c2 : ((i * n : Nat) : Int) ≤ (((i + 1) * n : Nat) : Int) := Int.ofNat_le.2 (by rw [m4]; exact Nat.le_add_right _ _)
    have c3 : (((i + 1) * n : Nat) : Int) ≤ (cells.length : Int) := Int.ofNat_le.2 (by rw [hl]; exact m3)
    have c4 : ([] : List Int).length + ((cells.take ((((i + 1) * n : Nat) : Int)).toNat).drop (((i * n : Nat) : Int)).toNat).length < 17592186044416 := by
      have e : (((cells.take ((((i + 1) * n : Nat) : Int)).toNat).drop (((i * n : Nat) : Int)).toNat)) = rowOf n cells i := rfl
      rw [e, rowOf_length hl hir, List.length_nil]; omega
    have c5 : a.length < 5864062014805 := by rw [ha]; omega
    have c6 : (i : Int) < (r : Int) := by omega
    have c7 : wrap64 ((i : Int) + 1) = ((i + 1 : Nat) : Int) := wnext (by omega)
    have w1 := wmul m1
    have w2 := wmul m2
    have e0 : ([] : List Int) ++ ((cells.take ((((i + 1) * n : Nat) : Int)).toNat).drop (((i * n : Nat) : Int)).toNat) = rowOf n cells i := rfl
    simp only [impl_reduce.l0]
    refine Ev.pos c6 (Ev.bind_some (v := ([] : List Int)) rfl ?_)
    rw [c7, w1, w2, e0]
    exact Ev.pos c1 (Ev.pos c2 (Ev.pos c3 (Ev.pos c4 (Ev.pos c5 (h3 v hv)))))
theorem impl_reduce.is (p : Int) (hp0 : isFld p = true) (r n : Nat) (hr : r ≤ 8) (hn : n ≤ 8) (cells : List Int) (ha : Inr p r n cells) :
    ∃ (M : Nat → Nat → Int) (P' : Nat → Bool) (c' piv' : List Int), Sol p r n (mx n cells) M ∧ Ech p M r n (fun _ => true) P' ∧ piv'.length = cnt P' n ∧
        Ev (fun k => impl_reduce.f k p (r : Int) (n : Int) cells) (p, (piv'.length : Int), (n : Int), c', piv') := by
  obtain ⟨a, h1, h2, h3⟩ := impl_red.start p r n hr hn cells ha.1 r 0 (by omega) [] rfl (fun x hx => absurd hx (by omega))
  have hm : ∀ x y, x < r → y < n → mr a x y = mx n cells x y := fun x y hx hy => by
    unfold mr
    rw [h2 x hx]; exact rowOf_rd ha.1 hx hy
  have hI : InR p r n a := ⟨h1, fun x hx => by rw [h2 x hx]; exact rowOf_length ha.1 hx, fun x y hx hy => by rw [hm x y hx hy]; exact ha.2 x y hx hy⟩
  obtain ⟨M, P', c', piv', q1, q2, q3, q4⟩ := impl_red.loop p hp0 r n hr hn (r : Int) cells (mx n cells) n 0 (by omega) a (fun _ => false) [] hI
    (Sol.congr (fun x hx y hy => by rw [hm x y hx hy, Int.sub_self]; exact Int.dvd_zero p))
    ⟨fun y hy => absurd hy (by omega), fun y hy => absurd hy (by omega), fun y hy => absurd hy (by omega), by rw [cnt_false]; omega⟩ (fun _ _ => rfl) (by rw [cnt_false]; rfl)
  exact ⟨M, P', c', piv', q1, q2, q3, h3 _ q4⟩
end Go.Proofs.Ytbhckhblonkajaa.Q
namespace Go.Proofs.Ytbhckhblonkajaa.Q
open Go.Proofs.Lin
def colsL (S : Nat → Bool) : Nat → List Nat
  | 0 => []
  | n + 1 => if S n then colsL S n ++ [n] else colsL S n
theorem colsL_length (S : Nat → Bool) (n : Nat) : (colsL S n).length = cnt S n := by
  induction n with
  | zero => rfl
  | succ n ih =>
    simp only [colsL, cnt]
    by_cases h : S n = true
    · simp [h, ih]
    · simp [h, ih]
theorem colsL_get {S : Nat → Bool} {n q : Nat} (hq : q < cnt S n) : (colsL S n).getD q 0 < n ∧ S ((colsL S n).getD q 0) = true ∧ cnt S ((colsL S n).getD q 0) = q := by
  induction n with
  | zero => simp [cnt] at hq
  | succ n ih =>
    by_cases h : S n = true
    · simp only [colsL, h, if_true]
      simp only [cnt, h, if_true] at hq
      by_cases e : q < cnt S n
      · obtain ⟨h1, h2, h3⟩ := ih e
        rw [List.getD_eq_getElem?_getD, List.getElem?_append_left (by rw [colsL_length]; exact e), ← List.getD_eq_getElem?_getD]
        exact ⟨by omega, h2, h3⟩
      · have e2 : q = cnt S n := by omega
        rw [List.getD_eq_getElem?_getD, List.getElem?_append_right (by rw [colsL_length]; omega), colsL_length, e2]
        simp [h]
    · simp only [colsL, h]
      simp only [cnt, h] at hq
      obtain ⟨h1, h2, h3⟩ := ih (by simpa using hq)
      exact ⟨Nat.lt_succ_of_lt h1, h2, h3⟩
theorem colsL_cnt {S : Nat → Bool} {n j : Nat} (hj : j < n) (hS : S j = true) : (colsL S n).getD (cnt S j) 0 = j := by
  induction n with
  | zero => omega
  | succ n ih =>
    by_cases e : j = n
    · subst e
      simp only [colsL, hS, if_true]
      rw [List.getD_eq_getElem?_getD, List.getElem?_append_right (by rw [colsL_length]; omega), colsL_length]; simp
    · have hjn : j < n := by omega
      simp only [colsL]
      split
      · rw [List.getD_eq_getElem?_getD, List.getElem?_append_left (by rw [colsL_length]; exact cnt_lt hjn hS), ← List.getD_eq_getElem?_getD]; exact ih hjn
      · exact ih hjn
theorem sumOn_cols (S : Nat → Bool) (n : Nat) (f : Nat → Int) : sumOn S n f = sumTo (cnt S n) (fun q => f ((colsL S n).getD q 0)) := by
  induction n with
  | zero => rfl
  | succ n ih =>
    have e0 : sumOn S (n + 1) f = sumOn S n f + (if S n then f n else 0) := rfl
    rw [e0, ih]
    by_cases h : S n = true
    · simp only [h, if_true, cnt, sumTo, colsL]
      congr 1
      · exact sumTo_congr (fun q hq => by
          rw [List.getD_eq_getElem?_getD, List.getD_eq_getElem?_getD, List.getElem?_append_left (by rw [colsL_length]; exact hq)])
      · rw [List.getD_eq_getElem?_getD, List.getElem?_append_right (by rw [colsL_length]; omega), colsL_length]; simp
    · have h2 : S n = false := by simpa using h
      simp [h2, cnt, colsL]
theorem Ind.cols {p : Int} {M : Nat → Nat → Int} {r n : Nat} {S : Nat → Bool} : Ind p (fun i q => M i ((colsL S n).getD q 0)) r (cnt S n) (fun _ => true) ↔ Ind p M r n S := by
  have e1 : ∀ m (f : Nat → Int), sumOn (fun _ => true) m f = sumTo m f := fun m f => sumTo_congr (fun j _ => by simp)
  constructor
  · intro h c hc j hj hS
    have h2 := h (fun q => c ((colsL S n).getD q 0)) (fun i hi => by
      have := hc i hi
      rw [sumOn_cols] at this
      rw [e1]; exact this) (cnt S j) (cnt_lt hj hS) rfl
    simp only [colsL_cnt hj hS] at h2
    exact h2
  · intro h c hc q hq _
    obtain ⟨h1, h2, h3⟩ := colsL_get hq
    have h4 := h (fun j => c (cnt S j)) (fun i hi => by
      have := hc i hi
      rw [e1] at this
      rw [sumOn_cols]
      rw [show sumTo (cnt S n) (fun q => M i ((colsL S n).getD q 0) * c (cnt S ((colsL S n).getD q 0))) = sumTo (cnt S n) (fun q => M i ((colsL S n).getD q 0) * c q) from sumTo_congr (fun q hq => by rw [(colsL_get hq).2.2])]
      exact this) _ h1 h2
    simp only [h3] at h4
    exact h4
theorem elsFrom_snoc (s : Nat) : ∀ d i, elsFrom s i (d + 1) = elsFrom s i d ++ (if s.testBit (i + d) then [((i + d : Nat) : Int)] else []) := by
  intro d
  induction d with
  | zero => intro i; by_cases h : s.testBit i = true <;> simp [elsFrom, h]
  | succ d ih =>
    intro i
    have e : elsFrom s i (d + 1 + 1) = if s.testBit i then (i : Int) :: elsFrom s (i + 1) (d + 1) else elsFrom s (i + 1) (d + 1) := rfl
    rw [e, ih (i + 1)]
    have e2 : i + 1 + d = i + (d + 1) := by omega
    rw [e2]
    by_cases h : s.testBit i = true
    · simp [elsFrom, h]
    · simp [elsFrom, h]
theorem elsFrom_cols (s n : Nat) : elsFrom s 0 n = (colsL (fun y => s.testBit y) n).map (fun (x : Nat) => (x : Int)) := by
  induction n with
  | zero => rfl
  | succ n ih =>
    rw [elsFrom_snoc, ih]
    simp only [colsL, Nat.zero_add]
    by_cases h : s.testBit n = true
    · simp [h]
    · simp [h]
theorem colsL_more {S : Nat → Bool} {n : Nat} : ∀ {m}, n ≤ m → (∀ j, n ≤ j → j < m → S j = false) → colsL S m = colsL S n := by
  intro m
  induction m with
  | zero => intro h _; have : n = 0 := by omega
            subst this; rfl
  | succ m ih =>
    intro h hS
    by_cases e : n = m + 1
    · subst e; rfl
    · simp only [colsL, hS m (by omega) (by omega)]
      exact ih (by omega) (fun j h1 h2 => hS j h1 (by omega))
theorem els_cols {s n : Nat} (hn : n ≤ 8) (hs : s < 2 ^ n) : els s = (colsL (fun y => s.testBit y) n).map (fun (x : Nat) => (x : Int)) := by
  unfold els
  rw [elsFrom_cols, colsL_more hn (fun j h1 h2 => Nat.testBit_lt_two_pow (Nat.lt_of_lt_of_le hs (Nat.pow_le_pow_right (by decide) h1)))]
theorem els_cnt {s n : Nat} (hn : n ≤ 8) (hs : s < 2 ^ n) : (els s).length = cnt (fun y => s.testBit y) n := by
  rw [els_cols hn hs, List.length_map, colsL_length]
end Go.Proofs.Ytbhckhblonkajaa.Q
namespace Go.Proofs.Ytbhckhblonkajaa.Q
open Go.RowKit Go.Proofs.YtbhckhblonkajaaW.PrintWords Go.Proofs.YtbhckhblonkajaaW.PrintLast Go.Proofs.YtbhckhblonkajaaW.PrintMore
open Go.Proofs.Lin
theorem impl_Matrix_at.is {p : Int} {rows n x y r : Nat} {cells : List Int} (hr : r ≤ 8) (hn : n ≤ 8) (hl : cells.length = r * n) (hx : x < r) (hy : y < n) (q : Int) : impl_Matrix_at.f p q (n : Int) cells (x : Int) (y : Int) = some (mx n cells x y) := by
  unfold impl_Matrix_at.f
  have h := idx_lt hx hy
  rw [widx (by omega) hn (by omega), if_pos (Int.natCast_nonneg _), if_pos (Int.ofNat_lt.2 (by rw [hl]; exact h))]
  rfl
theorem rd_append_left {l m : List Int} {i : Nat} (h : i < l.length) : rd (l ++ m) (i : Int) = rd l (i : Int) := by
  rw [rd_nat (by rw [List.length_append]; omega), rd_nat h, List.getElem_append_left h]
theorem rd_append_one {l : List Int} {v : Int} {i : Nat} (h : i = l.length) : rd (l ++ [v]) (i : Int) = v := by
  subst h
  rw [rd_nat (by simp)]; simp
theorem impl_cols.row (p : Int) (r n : Nat) (hr : r ≤ 8) (hn : n ≤ 8) (cells : List Int) (hl : cells.length = r * n) (L : List Nat) (hL : ∀ q, q < L.length → L.getD q 0 < n) (hm : L.length ≤ 8) (l : List Int) (hl2 : l = L.map (fun (x : Nat) => (x : Int))) (q1 q2 q3 q4 : Int) (i : Nat) (hi : i < r) :
    ∀ d q, q + d = L.length → ∀ acc : List Int, acc.length = i * L.length + q → (∀ x y, x * L.length + y < acc.length → y < L.length → mx L.length acc x y = mx n cells x (L.getD y 0)) →
      ∃ acc' : List Int, acc'.length = (i + 1) * L.length ∧ (∀ x y, x * L.length + y < acc'.length → y < L.length → mx L.length acc' x y = mx n cells x (L.getD y 0)) ∧
        ∀ v, Ev (fun k => impl_columnsOf.l0 k l ((i + 1 : Nat) : Int) p q4 (n : Int) cells q1 q2 q3 acc') v →
          Ev (fun k => impl_columnsOf.l1 k l (i : Int) l (l.length : Int) (q : Int) p q4 (n : Int) cells q1 q2 q3 acc) v := by
  have hll : l.length = L.length := by rw [hl2, List.length_map]
  intro d
  induction d with
  | zero =>
    intro q hq acc ha hx
    have m4 : (i + 1) * L.length = i * L.length + L.length := by rw [Nat.add_mul, Nat.one_mul]
    refine ⟨acc, by omega, hx, fun v hv => Ev.succ ?_⟩
    simp only [impl_columnsOf.l1]
    refine Ev.neg (by omega) ?_
    rw [wnext (by omega)]; exact hv
  | succ d ih =>
    intro q hq acc ha hx
    have hql : q < L.length := by omega
    have m1 : i * L.length ≤ 8 * 8 := Nat.mul_le_mul (by omega) hm
    have hlq := hL q hql
    have hrd : rd l (q : Int) = ((L.getD q 0 : Nat) : Int) := by
      rw [rd_nat (by omega)]
      subst hl2
      rw [List.getElem_map, List.getD_eq_getElem?_getD, List.getElem?_eq_getElem hql]; rfl
    obtain ⟨acc', h1, h2, h3⟩ := ih (q + 1) (by omega) (acc ++ [mx n cells i (L.getD q 0)]) (by simp [ha]; omega) (fun x y hlt hy => by
      unfold mx at hx ⊢
      rw [List.length_append, List.length_singleton] at hlt
      by_cases e : x * L.length + y < acc.length
      · rw [rd_append_left e]; exact hx x y e hy
      · rw [rd_append_one (by omega)]
        have : x = i ∧ y = q := (idx_inj hy hql).1 (by omega)
        rw [this.1, this.2])
    refine ⟨acc', h1, h2, fun v hv => Ev.succ ?_⟩
    simp only [impl_columnsOf.l1]
    refine Ev.pos (by omega) (Ev.pos (by omega) (Ev.pos (by omega) ?_))
    rw [hrd]
    refine Ev.bind_some (impl_Matrix_at.is (rows := 0) hr hn hl hi hlq q4) (Ev.pos (by omega) ?_)
    rw [wnext (by omega)]; exact h3 v hv
theorem impl_cols.rows (p : Int) (r n : Nat) (hr : r ≤ 8) (hn : n ≤ 8) (cells : List Int) (hl : cells.length = r * n) (L : List Nat) (hL : ∀ q, q < L.length → L.getD q 0 < n) (hm : L.length ≤ 8) (l : List Int) (hl2 : l = L.map (fun (x : Nat) => (x : Int))) (q1 q2 q3 : Int) :
    ∀ d i, i + d = r → ∀ acc : List Int, acc.length = i * L.length → (∀ x y, x * L.length + y < acc.length → y < L.length → mx L.length acc x y = mx n cells x (L.getD y 0)) →
      ∃ acc' : List Int, acc'.length = r * L.length ∧ (∀ x y, x * L.length + y < acc'.length → y < L.length → mx L.length acc' x y = mx n cells x (L.getD y 0)) ∧
          Ev (fun k => impl_columnsOf.l0 k l (i : Int) p (r : Int) (n : Int) cells q1 q2 q3 acc) (q1, q2, q3, acc') := by
  intro d
  induction d with
  | zero =>
    intro i hi acc ha hx
    have : i = r := by omega
    subst this
    refine ⟨acc, ha, hx, Ev.succ ?_⟩
    simp only [impl_columnsOf.l0]
    exact Ev.neg (by omega) (Ev.of rfl)
  | succ d ih =>
    intro i hi acc ha hx
    obtain ⟨a1, h1, h2, h3⟩ := impl_cols.row p r n hr hn cells hl L hL hm l hl2 q1 q2 q3 (r : Int) i (by omega) L.length 0 (by omega) acc (by omega) hx
    obtain ⟨a2, e1, e2, e3⟩ := ih (i + 1) (by omega) a1 h1 h2
    refine ⟨a2, e1, e2, Ev.succ ?_⟩
    simp only [impl_columnsOf.l0]
    exact Ev.pos (by omega) (h3 _ e3)
theorem impl_columnsOf.is (p : Int) (r n : Nat) (hr : r ≤ 8) (hn : n ≤ 8) (cells : List Int) (ha : Inr p r n cells) (s : Nat) (hs : s < 2 ^ n) :
    ∃ c' : List Int, Inr p r (cnt (fun y => s.testBit y) n) c' ∧ (∀ x y, x < r → y < cnt (fun y => s.testBit y) n → mx (cnt (fun y => s.testBit y) n) c' x y = mx n cells x ((colsL (fun y => s.testBit y) n).getD y 0)) ∧
      Ev (fun k => impl_columnsOf.f k p (r : Int) (n : Int) cells (s : Int)) (p, (r : Int), ((cnt (fun y => s.testBit y) n : Nat) : Int), c') := by
  have hp : (2 : Nat) ^ n ≤ 256 := Nat.pow_le_pow_right (n := 2) (by decide) hn
  have hc : (colsL (fun y => s.testBit y) n).length = cnt (fun y => s.testBit y) n := colsL_length _ _
  have h8 := els_length (s := s)
  have hel := els_cnt hn hs
  obtain ⟨c', h1, h2, h3⟩ := impl_cols.rows p r n hr hn cells ha.1 (colsL (fun y => s.testBit y) n) (fun q hq => (colsL_get (by rw [← hc]; exact hq)).1) (by omega) (els s) (els_cols hn hs) p (r : Int) ((els s).length : Int) r 0 (by omega) [] (by simp) (fun x y h => by simp at h)
  rw [hc] at h1 h2
  have hm : ∀ x y, x < r → y < cnt (fun y => s.testBit y) n → mx (cnt (fun y => s.testBit y) n) c' x y = mx n cells x ((colsL (fun y => s.testBit y) n).getD y 0) := fun x y hx hy => h2 x y (by rw [h1]; exact idx_lt hx hy) hy
  refine ⟨c', ⟨h1, fun x y hx hy => by rw [hm x y hx hy]; exact ha.2 x _ hx (colsL_get hy).1⟩, hm, ?_⟩
  unfold impl_columnsOf.f
  refine Ev.bind (impl_ElementsOf.is (by omega)) ?_
  rw [← hel]; exact h3
theorem impl_MatrixRank.is (p : Int) (r n : Nat) (cells : List Int) (hM : isMat p (r : Int) (n : Int) cells = true) (hr : r ≤ 8) (hn : n ≤ 8) (hp0 : isFld p = true) (ha : Inr p r n cells) (hlen : cells.length ≤ maxLen) (s : Nat) (hs : s < 2 ^ n) :
    ∃ m : Nat, Ev (fun k => impl_MatrixRank.f k p (r : Int) (n : Int) cells (s : Int)) (m : Int) ∧ (m = cnt (fun y => s.testBit y) n ↔ Ind p (mx n cells) r n (fun y => s.testBit y)) := by
  have hpr := prime_of hp0
  have h8 := els_length (s := s)
  have hel := els_cnt hn hs
  obtain ⟨c', h1, h2, h3⟩ := impl_columnsOf.is p r n hr hn cells ha s hs
  obtain ⟨M, P', c2, piv, q1, q2, q3, q4⟩ := impl_reduce.is p hp0 r _ hr (by omega) c' h1
  refine ⟨piv.length, ?_, ?_⟩
  · unfold impl_MatrixRank.f
    refine Ev.bind (impl_IsMatrix.is p _ _ _ hlen) ?_
    rw [hM]
    refine Ev.pos rfl ?_
    have hset : isSet (n : Int) (s : Int) = true := isSet_iff.2 ⟨⟨by omega, by omega⟩, by omega, by rw [full_nat]; omega⟩
    refine Ev.bind_some (impl_IsSet.is _ _) ?_
    rw [hset]
    refine Ev.succ ?_
    simp only [impl_MatrixRank.j0]
    refine Ev.neg (by decide) ?_
    exact Ev.bind h3 (Ev.bind q4 (Ev.of rfl))
  · rw [q3]
    have e1 := q2.rank hpr
    rw [cnt_true] at e1
    rw [e1, ← q1.ind]
    exact (Sol.ind (M := mx (cnt (fun y => s.testBit y) n) c') (M' := fun i q => mx n cells i ((colsL (fun y => s.testBit y) n).getD q 0)) (Sol.congr (fun x hx y hy => by rw [h2 x y hx hy, Int.sub_self]; exact Int.dvd_zero p)) (fun _ => true)).trans Ind.cols
def bitsP (s : Nat) : Nat → Bool := fun y => s.testBit y
def card (s : Nat) : Nat := cnt (bitsP s) 8
theorem finN {P : Nat → Prop} (h : ∀ s : Fin 256, P s.val) {s : Nat} (hs : s < 256) : P s := h ⟨s, hs⟩
theorem impl_CountOf.is {s : Nat} (hs : s < 256) : impl_CountOf.f (s : Int) = some (card s : Int) :=
  finN (P := fun s => impl_CountOf.f (s : Int) = some (card s : Int)) (by decide +kernel) hs
theorem cntI_is {s : Nat} (hs : s < 256) : cntI (s : Int) = (card s : Int) := by
  unfold cntI
  rw [impl_CountOf.is hs]; rfl
theorem spec_CountOf.is {s : Nat} (hs : s < 256) : Ev (fun k => spec_CountOf.f k (s : Int)) (card s : Int) := by
  have h : spec_CountOf.f 10 (s : Int) = some (card s : Int) := finN (P := fun s => spec_CountOf.f 10 (s : Int) = some (card s : Int)) (by decide +kernel) hs
  exact Ev.mono (fun k w h => spec_CountOf.mono _ k w h) h
theorem cnt_more {S : Nat → Bool} {n : Nat} : ∀ {m}, n ≤ m → (∀ j, n ≤ j → j < m → S j = false) → cnt S m = cnt S n := by
  intro m h1 h2
  rw [← colsL_length, ← colsL_length, colsL_more h1 h2]
theorem card_cnt {s n : Nat} (hn : n ≤ 8) (hs : s < 2 ^ n) : card s = cnt (bitsP s) n :=
  cnt_more hn (fun j h1 h2 => Nat.testBit_lt_two_pow (Nat.lt_of_lt_of_le hs (Nat.pow_le_pow_right (by decide) h1)))
theorem spec_FullSet.is {n : Nat} (hn : n ≤ 8) : spec_FullSet.f (n : Int) = some ((2 ^ n - 1 : Nat) : Int) := by
  have h : ∀ n : Fin 9, spec_FullSet.f (n.val : Int) = some ((2 ^ n.val - 1 : Nat) : Int) := by decide +kernel
  exact h ⟨n, by omega⟩
def bitsOf (P : Nat → Bool) : Nat → Nat
  | 0 => 0
  | n + 1 => bitsOf P n ||| (if P n then 2 ^ n else 0)
theorem bitsOf_lt (P : Nat → Bool) (n : Nat) : bitsOf P n < 2 ^ n := by
  induction n with
  | zero => simp [bitsOf]
  | succ n ih =>
    simp only [bitsOf]
    refine Nat.or_lt_two_pow (Nat.lt_of_lt_of_le ih (Nat.pow_le_pow_right (by decide) (by omega))) ?_
    split
    · exact Nat.pow_lt_pow_right (by decide) (by omega)
    · exact Nat.two_pow_pos _
theorem bitsOf_bit {P : Nat → Bool} {n j : Nat} (hj : j < n) : (bitsOf P n).testBit j = P j := by
  induction n with
  | zero => omega
  | succ n ih =>
    simp only [bitsOf]
    rw [Nat.testBit_or]
    by_cases e : j = n
    · subst e
      rw [Nat.testBit_lt_two_pow (bitsOf_lt P j)]
      by_cases h : P j = true
      · simp [h]
      · simp [h]
    · rw [ih (by omega)]
      have h1 : ¬ n = j := fun h => e h.symm
      by_cases h : P n = true
      · simp [h, Nat.testBit_two_pow, h1]
      · simp [h]
theorem set_ext {s t n : Nat} (hs : s < 2 ^ n) (ht : t < 2 ^ n) (h : ∀ j, j < n → s.testBit j = t.testBit j) : s = t := by
  refine Nat.eq_of_testBit_eq (fun j => ?_)
  by_cases hj : j < n
  · exact h j hj
  · rw [Nat.testBit_lt_two_pow (Nat.lt_of_lt_of_le hs (Nat.pow_le_pow_right (by decide) (by omega))), Nat.testBit_lt_two_pow (Nat.lt_of_lt_of_le ht (Nat.pow_le_pow_right (by decide) (by omega)))]
end Go.Proofs.Ytbhckhblonkajaa.Q
namespace Go.Proofs.Ytbhckhblonkajaa.Q
open Go.RowKit Go.Proofs.YtbhckhblonkajaaW.PrintWords Go.Proofs.YtbhckhblonkajaaW.PrintLast Go.Proofs.YtbhckhblonkajaaW.PrintMore
def Asc (l : List Int) : Prop := l.Pairwise (· < ·)
theorem sortSets_asc {l : List Int} (h : Asc l) : sortSets l = l := by
  have h1 : sortI l = l := List.mergeSort_of_pairwise (h.imp (fun {a b} hab => by simp; omega))
  unfold sortSets
  rw [h1]
  refine Lib.compact_all l (fun j hj => ?_)
  unfold Lib.keeps
  rw [decide_eq_true_iff]
  by_cases h0 : j = 0
  · exact .inl h0
  · right
    have h2 := List.pairwise_iff_getElem.1 h (j - 1) j (by omega) hj (by omega)
    have e1 : l.toArray[j]! = l[j] := by simp [hj]
    have e2 : l.toArray[j - 1]! = l[j - 1] := by
      have : j - 1 < l.length := by omega
      simp [this]
    rw [e1, e2]
    have h3 : l[j - 1]'(by omega) < l[j] := h2
    omega
theorem impl_areSets.is (l : List Int) (hl : l.length ≤ maxLen) : Ev (fun k => impl_areSets.f k l) (l.all (fun s => decide (0 ≤ s ∧ s < 256))) := by
  have hm := maxLen_eq
  have key : ∀ d i, i + d = l.length → Ev (fun k => impl_areSets.l0 k l (l.length : Int) (i : Int)) ((l.drop i).all (fun s => decide (0 ≤ s ∧ s < 256))) := by
    intro d
    induction d with
    | zero =>
      intro i hi
      refine Ev.succ ?_
      simp only [impl_areSets.l0]
      refine Ev.neg (by omega) (Ev.of ?_)
      rw [List.drop_of_length_le (by omega)]; rfl
    | succ d ih =>
      intro i hi
      have hil : i < l.length := by omega
      have e : (l.drop i).all (fun s => decide (0 ≤ s ∧ s < 256)) = (decide (0 ≤ rd l i ∧ rd l i < 256) && (l.drop (i + 1)).all (fun s => decide (0 ≤ s ∧ s < 256))) := by
        rw [List.drop_eq_getElem_cons hil, List.all_cons, rd_nat hil]
      rw [e]
      refine Ev.succ ?_
      simp only [impl_areSets.l0]
      refine Ev.pos (by omega) (Ev.pos (by omega) (Ev.pos (by omega) (Ev.bind_some (impl_isAny.eq_ _) ?_)))
      by_cases h : 0 ≤ rd l i ∧ rd l i < 256
      · rw [show decide (0 ≤ rd l i ∧ rd l i < 256) = true from decide_eq_true h]
        refine Ev.pos rfl ?_
        rw [wnext (by omega), Bool.true_and]; exact ih (i + 1) (by omega)
      · rw [show decide (0 ≤ rd l i ∧ rd l i < 256) = false from decide_eq_false h]
        exact Ev.neg (by decide) (Ev.of rfl)
  have := key l.length 0 (by omega)
  rwa [List.drop_zero] at this
def maxOf (l m : List Int) : List Int := m.filter (fun s => !(l.any fun t => t != s && subB s t))
theorem impl_MaximalSets.is (l : List Int) (hl : l.length < 1000000) (h : ∀ x ∈ l, 0 ≤ x ∧ x < 256) : Ev (fun k => impl_MaximalSets.f k l) (maxOf l (sortSets l)) := by
  have hm := maxLen_eq
  have hlen : (sortSets l).length ≤ l.length := by
    unfold sortSets
    have := compact_le (sortI l)
    rwa [sortI_length] at this
  have key : ∀ d i, i + d = (sortSets l).length → ∀ acc : List Int, acc.length ≤ i → Ev (fun k => impl_MaximalSets.l0 k l acc (sortSets l) ((sortSets l).length : Int) (i : Int)) (acc ++ maxOf l ((sortSets l).drop i)) := by
    intro d
    induction d with
    | zero =>
      intro i hi acc ha
      refine Ev.succ ?_
      simp only [impl_MaximalSets.l0]
      refine Ev.neg (by omega) (Ev.of ?_)
      rw [List.drop_of_length_le (by omega)]; simp [maxOf]
    | succ d ih =>
      intro i hi acc ha
      have hil : i < (sortSets l).length := by omega
      have e : maxOf l ((sortSets l).drop i) = (if (l.any fun t => t != rd (sortSets l) i && subB (rd (sortSets l) i) t) = true then [] else [rd (sortSets l) i]) ++ maxOf l ((sortSets l).drop (i + 1)) := by
        unfold maxOf
        rw [List.drop_eq_getElem_cons hil, List.filter_cons, rd_nat hil]
        cases (l.any fun t => t != (sortSets l)[i] && subB (sortSets l)[i] t) <;> simp
      refine Ev.succ ?_
      simp only [impl_MaximalSets.l0]
      refine Ev.pos (by omega) (Ev.pos (by omega) (Ev.pos (by omega) (Ev.bind_some rfl ?_)))
      rw [wnext (by omega)]
      by_cases h : (l.any fun t => t != rd (sortSets l) i && subB (rd (sortSets l) i) t) = true
      · refine Ev.pos h ?_
        rw [e, if_pos h, List.nil_append]
        exact ih (i + 1) (by omega) acc (by omega)
      · refine Ev.neg h (Ev.pos (by omega) ?_)
        rw [e, if_neg h, ← List.append_assoc]
        exact ih (i + 1) (by omega) _ (by simp; omega)
  unfold impl_MaximalSets.f
  refine Ev.bind (impl_areSets.is l (by omega)) ?_
  refine Ev.pos (List.all_eq_true.2 (fun x hx => decide_eq_true (h x hx))) ?_
  refine Ev.bind_some (x := impl_SortSets.f l) (by unfold impl_SortSets.f; rw [if_pos (by omega)]) ?_
  have := key (sortSets l).length 0 (by omega) [] (by simp)
  rwa [List.drop_zero] at this
theorem subB_is {a b : Nat} (ha : a < 256) (hb : b < 256) : subB (a : Int) (b : Int) = true ↔ ∀ j, a.testBit j = true → b.testBit j = true := by
  have e : impl_IsSubset.f (a : Int) (b : Int) = some (((dif a b : Nat) : Int) == 0) := by
    unfold impl_IsSubset.f
    rw [impl_isAny.eq_, impl_isAny.eq_, bits_andNot ha hb, show decide (0 ≤ (a : Int) ∧ (a : Int) < 256) = true from decide_eq_true (by omega), show decide (0 ≤ (b : Int) ∧ (b : Int) < 256) = true from decide_eq_true (by omega)]
    rfl
  rw [subB_some] at e
  rw [Option.some.inj e]
  simp only [beq_iff_eq]
  constructor
  · intro h j hj
    have h0 : dif a b = 0 := by omega
    by_cases h8 : j < 8
    · have := dif_bit (a := a) (b := b) h8
      rw [h0, Nat.zero_testBit, hj] at this
      simpa using this.symm
    · rw [testBit_hi ha (by omega)] at hj
      exact absurd hj (by decide)
  · intro h
    have : dif a b = 0 := by
      refine Nat.eq_of_testBit_eq (fun j => ?_)
      rw [Nat.zero_testBit]
      by_cases h8 : j < 8
      · rw [dif_bit h8]
        cases ha2 : a.testBit j
        · rfl
        · rw [h j ha2]; rfl
      · exact testBit_hi (dif_lt ha) (by omega)
    rw [this]; rfl
def setsB (B : Nat → Bool) (n : Nat) : List Int := ((List.range (2 ^ n)).filter B).map (fun (k : Nat) => (k : Int))
theorem mem_setsB {B : Nat → Bool} {n : Nat} {x : Int} : x ∈ setsB B n ↔ ∃ s : Nat, s < 2 ^ n ∧ B s = true ∧ x = (s : Int) := by
  unfold setsB
  rw [List.mem_map]
  constructor
  · rintro ⟨s, h, rfl⟩
    rw [List.mem_filter, List.mem_range] at h
    exact ⟨s, h.1, h.2, rfl⟩
  · rintro ⟨s, h1, h2, rfl⟩
    exact ⟨s, by rw [List.mem_filter, List.mem_range]; exact ⟨h1, h2⟩, rfl⟩
theorem setsB_asc (B : Nat → Bool) (n : Nat) : Asc (setsB B n) := by
  unfold setsB Asc
  rw [List.pairwise_map]
  exact (List.Pairwise.filter _ List.pairwise_lt_range).imp (fun {a b} h => by omega)
theorem setsB_length {B : Nat → Bool} {n : Nat} (hn : n ≤ 8) : (setsB B n).length ≤ 256 := by
  have hp : (2 : Nat) ^ n ≤ 256 := Nat.pow_le_pow_right (n := 2) (by decide) hn
  unfold setsB
  rw [List.length_map]
  have := List.length_filter_le B (List.range (2 ^ n))
  rw [List.length_range] at this
  omega
theorem setsB_range {B : Nat → Bool} {n : Nat} (hn : n ≤ 8) : ∀ x ∈ setsB B n, 0 ≤ x ∧ x < 256 := by
  have hp : (2 : Nat) ^ n ≤ 256 := Nat.pow_le_pow_right (n := 2) (by decide) hn
  intro x hx
  obtain ⟨s, h1, _, rfl⟩ := mem_setsB.1 hx
  omega
theorem setsB_congr {B C : Nat → Bool} {n : Nat} (h : ∀ s, s < 2 ^ n → B s = C s) : setsB B n = setsB C n := by
  unfold setsB
  rw [List.filter_congr (fun s hs => h s (List.mem_range.1 hs))]
theorem filter_setsB {B : Nat → Bool} {n : Nat} (p : Int → Bool) : (setsB B n).filter p = setsB (fun s => B s && p (s : Int)) n := by
  unfold setsB
  rw [List.filter_map, List.filter_filter]
  congr 1
  exact List.filter_congr (fun s _ => by simp [Bool.and_comm])
end Go.Proofs.Ytbhckhblonkajaa.Q
namespace Go.Proofs.Ytbhckhblonkajaa.Q
open Go.RowKit Go.Proofs.YtbhckhblonkajaaW.PrintWords Go.Proofs.YtbhckhblonkajaaW.PrintLast Go.Proofs.YtbhckhblonkajaaW.PrintMore
open Go.Proofs.Lin
def swp (a e f : Nat) : Nat := (a ^^^ 2 ^ e) ||| 2 ^ f
theorem xch_swp {a e f : Nat} (ha : a < 256) (he : e < 8) (hf : f < 8) (h1 : a.testBit e = true) (h2 : a.testBit f = false) : xch (a : Int) (e : Int) (f : Int) = (swp a e f : Int) := by
  have h : ∀ (a : Fin 256) (e f : Fin 8), a.val.testBit e.val = true → a.val.testBit f.val = false → xch (a.val : Int) (e.val : Int) (f.val : Int) = (swp a.val e.val f.val : Int) := by decide +kernel
  exact h ⟨a, ha⟩ ⟨e, he⟩ ⟨f, hf⟩ h1 h2
theorem swp_bit {a e f j : Nat} (h1 : a.testBit e = true) : (swp a e f).testBit j = ((a.testBit j && (j != e)) || (j == f)) := by
  unfold swp
  rw [Nat.testBit_or, Nat.testBit_xor, Nat.testBit_two_pow, Nat.testBit_two_pow]
  by_cases e1 : e = j
  · subst e1
    by_cases e2 : f = e
    · subst e2; simp
    · have e3 : ¬ e = f := fun h => e2 h.symm
      simp [h1, e2, e3]
  · have e4 : ¬ j = e := fun h => e1 h.symm
    by_cases e2 : f = j
    · subst e2; simp
    · have e3 : ¬ j = f := fun h => e2 h.symm
      have e5 : (j != e) = true := by simp [e4]
      have e6 : (j == f) = false := by simp [e3]
      simp [e1, e2, e5, e6]
theorem asc_rd {l : List Int} : Asc l ↔ ∀ i : Nat, i < l.length → i ≠ 0 → rd l ((i : Int) - 1) < rd l i := by
  constructor
  · intro h i hi h0
    have h2 := List.pairwise_iff_getElem.1 h (i - 1) i (by omega) hi (by omega)
    rw [show (i : Int) - 1 = ((i - 1 : Nat) : Int) by omega, rd_nat (by omega), rd_nat hi]
    exact h2
  · intro h
    have key : ∀ d i, i + d < l.length → 0 < d → rd l (i : Int) < rd l ((i + d : Nat) : Int) := by
      intro d
      induction d with
      | zero => intro i hi h0; omega
      | succ d ih =>
        intro i hi h0
        have h1 := h (i + d + 1) (by omega) (by omega)
        rw [show ((i + d + 1 : Nat) : Int) - 1 = ((i + d : Nat) : Int) by omega] at h1
        by_cases e : d = 0
        · subst e; exact h1
        · have := ih i (by omega) (by omega)
          exact Int.lt_trans this h1
    refine List.pairwise_iff_getElem.2 (fun i j hi hj hij => ?_)
    have := key (j - i) i (by omega) (by omega)
    rwa [show i + (j - i) = j by omega, rd_nat hi, rd_nat hj] at this
theorem hasI_mem {l : List Int} {x : Int} : hasI l x = true ↔ x ∈ l := by simp [hasI]
theorem fam_asc {n : Nat} {l : List Int} : fam (n : Int) l = true ↔ n ≤ 8 ∧ Asc l ∧ ∀ x ∈ l, ∃ s : Nat, s < 2 ^ n ∧ x = (s : Int) := by
  rw [fam_iff, asc_rd]
  constructor
  · rintro ⟨h1, h2⟩
    refine ⟨by omega, fun i hi h0 => (h2 i hi).2 h0, fun x hx => ?_⟩
    obtain ⟨i, hi, rfl⟩ := List.mem_iff_getElem.1 hx
    have := (h2 i hi).1
    rw [rd_nat hi, full_nat] at this
    exact ⟨(l[i]).toNat, by omega, by omega⟩
  · rintro ⟨h1, h2, h3⟩
    refine ⟨by omega, fun i hi => ⟨?_, fun h0 => h2 i hi h0⟩⟩
    obtain ⟨s, hs, he⟩ := h3 _ (rd_mem hi)
    rw [he, full_nat]
    omega
theorem bad_iff {n : Nat} (hn : n ≤ 8) {l : List Int} (hl : ∀ x ∈ l, ∃ s : Nat, s < 2 ^ n ∧ x = (s : Int)) :
    bad n l = false ↔ ∀ a b : Nat, (a : Int) ∈ l → (b : Int) ∈ l → ∀ e, a.testBit e = true → b.testBit e = false → ∃ f, b.testBit f = true ∧ a.testBit f = false ∧ (swp a e f : Int) ∈ l := by
  have hp : (2 : Nat) ^ n ≤ 256 := Nat.pow_le_pow_right (n := 2) (by decide) hn
  have lt : ∀ a : Nat, (a : Int) ∈ l → a < 2 ^ n := fun a ha => by
    obtain ⟨s, hs, he⟩ := hl _ ha
    omega
  have ex : ∀ a b e : Nat, a < 2 ^ n → b < 2 ^ n → a.testBit e = true → (exB n l (a : Int) (b : Int) (e : Int) = true ↔ ∃ f, b.testBit f = true ∧ a.testBit f = false ∧ (swp a e f : Int) ∈ l) := by
    intro a b e ha hb he
    have he8 : e < n := bit_lt ha he
    unfold exB
    rw [anyN_iff]
    constructor
    · rintro ⟨f, _, hf, hh⟩
      rw [has_nat, has_nat] at hh
      simp only [Bool.and_eq_true, Bool.not_eq_true'] at hh
      refine ⟨f, hh.1.1, hh.1.2, ?_⟩
      rw [← xch_swp (by omega) (by omega) (by omega) he hh.1.2]
      exact hasI_mem.1 hh.2
    · rintro ⟨f, h1, h2, h3⟩
      have hf : f < n := bit_lt hb h1
      refine ⟨f, by omega, by omega, ?_⟩
      rw [has_nat, has_nat]
      simp only [Bool.and_eq_true, Bool.not_eq_true']
      refine ⟨⟨h1, h2⟩, ?_⟩
      rw [xch_swp (by omega) (by omega) (by omega) he h2]
      exact hasI_mem.2 h3
  constructor
  · intro h a b ha hb e h1 h2
    apply Classical.byContradiction
    intro hc
    have hb1 : bad n l = true := by
      obtain ⟨i, hi, hie⟩ := List.mem_iff_getElem.1 ha
      obtain ⟨j, hj, hje⟩ := List.mem_iff_getElem.1 hb
      unfold bad
      refine anyN_iff.2 ⟨i, by omega, by omega, ?_⟩
      unfold badA
      refine anyN_iff.2 ⟨j, by omega, by omega, ?_⟩
      rw [rd_nat hi, rd_nat hj, hie, hje]
      unfold badB
      refine anyN_iff.2 ⟨e, by omega, by have := bit_lt (lt a ha) h1; omega, ?_⟩
      unfold badE
      rw [has_nat, has_nat, h1, h2]
      have : exB n l (a : Int) (b : Int) (e : Int) = false := by
        rw [Bool.eq_false_iff]
        exact fun h3 => hc ((ex a b e (lt a ha) (lt b hb) h1).1 h3)
      rw [this]; rfl
    rw [h] at hb1
    exact Bool.false_ne_true hb1
  · intro h
    rw [Bool.eq_false_iff]
    intro hb
    unfold bad at hb
    obtain ⟨i, _, hi, hb⟩ := anyN_iff.1 hb
    unfold badA at hb
    obtain ⟨j, _, hj, hb⟩ := anyN_iff.1 hb
    unfold badB at hb
    obtain ⟨e, _, he, hb⟩ := anyN_iff.1 hb
    obtain ⟨a, ha, ea⟩ := hl _ (rd_mem (l := l) (i := i) (by omega))
    obtain ⟨b, hb2, eb⟩ := hl _ (rd_mem (l := l) (i := j) (by omega))
    have ma : (a : Int) ∈ l := by rw [← ea]; exact rd_mem (by omega)
    have mb : (b : Int) ∈ l := by rw [← eb]; exact rd_mem (by omega)
    rw [ea, eb] at hb
    unfold badE at hb
    rw [has_nat, has_nat] at hb
    simp only [Bool.and_eq_true, Bool.not_eq_true'] at hb
    have := (ex a b e ha hb2 hb.1.1).2 (h a b ma mb e hb.1.1 hb.1.2)
    rw [hb.2] at this
    exact Bool.false_ne_true this
structure Mat (n : Nat) (l : List Int) : Prop where
  n8 : n ≤ 8
  asc : Asc l
  sets : ∀ x ∈ l, ∃ s : Nat, s < 2 ^ n ∧ x = (s : Int)
  some_ : l ≠ []
  xchg : ∀ a b : Nat, (a : Int) ∈ l → (b : Int) ∈ l → ∀ e, a.testBit e = true → b.testBit e = false → ∃ f, b.testBit f = true ∧ a.testBit f = false ∧ (swp a e f : Int) ∈ l
theorem matr_iff {n : Nat} {l : List Int} : matr (n : Int) l = true ↔ Mat n l := by
  unfold matr
  rw [show ((n : Int)).toNat = n by omega]
  simp only [Bool.and_eq_true, Bool.not_eq_true', decide_eq_true_eq]
  rw [fam_asc]
  constructor
  · rintro ⟨⟨⟨h1, h2, h3⟩, h4⟩, h5⟩
    exact ⟨h1, h2, h3, fun e => by subst e; simp at h4, (bad_iff h1 h3).1 h5⟩
  · rintro ⟨h1, h2, h3, h4, h5⟩
    exact ⟨⟨⟨h1, h2, h3⟩, List.length_pos_iff.2 h4⟩, (bad_iff h1 h3).2 h5⟩
theorem matr_nat {n : Int} {l : List Int} (h : matr n l = true) : ∃ m : Nat, n = (m : Int) ∧ Mat m l := by
  have h1 : fam n l = true := by
    unfold matr at h
    simp only [Bool.and_eq_true] at h
    exact h.1.1
  have h2 := (fam_iff.1 h1).1
  refine ⟨n.toNat, by omega, ?_⟩
  rw [← matr_iff, show ((n.toNat : Nat) : Int) = n by omega]
  exact h
end Go.Proofs.Ytbhckhblonkajaa.Q
