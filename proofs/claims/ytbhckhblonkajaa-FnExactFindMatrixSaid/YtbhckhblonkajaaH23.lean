/- Part of a proof: contracts and lemmas that the row's text uses; joined by a program. -/
import Derived.Test.YtbhckhblonkajaaH04
import Derived.Test.YtbhckhblonkajaaH05
import Derived.Test.YtbhckhblonkajaaH06
import Derived.Test.YtbhckhblonkajaaH07
import Derived.Test.YtbhckhblonkajaaH15
import Derived.Test.YtbhckhblonkajaaH17
import Derived.Test.YtbhckhblonkajaaH18
set_option linter.unusedVariables false
set_option linter.unusedSimpArgs false
namespace Go.Proofs.Ytbhckhblonkajaa.Q
open Go.RowKit Go.Proofs.YtbhckhblonkajaaW.PrintWords Go.Proofs.YtbhckhblonkajaaW.PrintLast Go.Proofs.YtbhckhblonkajaaW.PrintMore
def Ev {α : Type} (f : Nat → Option α) (v : α) : Prop := ∃ K, ∀ k, K ≤ k → f k = some v
theorem Ev.pure {α : Type} {v : α} : Ev (fun _ => some v) v := ⟨0, fun _ _ => rfl⟩
theorem Ev.of {α : Type} {x : Option α} {v : α} (h : x = some v) : Ev (fun _ => x) v := ⟨0, fun _ _ => h⟩
theorem Ev.succ {α : Type} {f : Nat → Option α} {v : α} (h : Ev (fun k => f (k + 1)) v) : Ev f v := by
  obtain ⟨K, h⟩ := h
  refine ⟨K + 1, fun k hk => ?_⟩
  obtain ⟨m, rfl⟩ : ∃ m, k = m + 1 := ⟨k - 1, by omega⟩
  exact h m (by omega)
theorem Ev.congr {α : Type} {f g : Nat → Option α} {v : α} (h : Ev g v) (e : ∀ k, f k = g k) : Ev f v := by
  obtain ⟨K, h⟩ := h
  exact ⟨K, fun k hk => (e k).trans (h k hk)⟩
theorem Ev.bind {α β : Type} {f : Nat → Option α} {g : Nat → α → Option β} {v : α} {w : β} (h : Ev f v) (h2 : Ev (fun k => g k v) w) : Ev (fun k => (f k).bind (g k)) w := by
  obtain ⟨K, h⟩ := h
  obtain ⟨K2, h2⟩ := h2
  exact ⟨max K K2, fun k hk => by show (f k).bind (g k) = some w; rw [h k (by omega)]; exact h2 k (by omega)⟩
theorem Ev.bind_some {α β : Type} {g : Nat → α → Option β} {x : Option α} {v : α} {w : β} (h : x = some v) (h2 : Ev (fun k => g k v) w) : Ev (fun k => x.bind (g k)) w := Ev.bind (Ev.of h) h2
theorem Ev.pos {α : Type} {c : Prop} [Decidable c] {f g : Nat → Option α} {v : α} (hc : c) (h : Ev f v) : Ev (fun k => if c then f k else g k) v := h.congr (fun k => if_pos hc)
theorem Ev.neg {α : Type} {c : Prop} [Decidable c] {f g : Nat → Option α} {v : α} (hc : ¬ c) (h : Ev g v) : Ev (fun k => if c then f k else g k) v := h.congr (fun k => if_neg hc)
theorem Ev.out {α : Type} {f : Nat → Option α} {v : α} (h : Ev f v) : ∃ k, f k = some v := by
  obtain ⟨K, h⟩ := h
  exact ⟨K, h K (Nat.le_refl _)⟩
theorem Ev.same {α : Type} {f : Nat → Option α} {v w : α} (h : Ev f v) (h2 : Ev f w) : v = w := by
  obtain ⟨K, h⟩ := h
  obtain ⟨K2, h2⟩ := h2
  exact Option.some.inj ((h (max K K2) (by omega)).symm.trans (h2 (max K K2) (by omega)))
theorem w64 {n : Int} (h0 : -9223372036854775808 ≤ n) (h1 : n < 9223372036854775808) : wrap64 n = n := by unfold wrap64; omega
def has (s e : Int) : Bool := decide (s / 2 ^ e.toNat % 2 = 1)
theorem fin256 {P : Int → Prop} (h : ∀ s : Fin 256, P (s.val : Int)) {s : Int} (h0 : 0 ≤ s) (h1 : s < 256) : P s := by
  have := h ⟨s.toNat, by omega⟩
  rwa [show ((s.toNat : Nat) : Int) = s by omega] at this
theorem fin8 {P : Int → Prop} (h : ∀ s : Fin 8, P (s.val : Int)) {s : Int} (h0 : 0 ≤ s) (h1 : s < 8) : P s := by
  have := h ⟨s.toNat, by omega⟩
  rwa [show ((s.toNat : Nat) : Int) = s by omega] at this
theorem spec_l2Has.is {s e : Int} (hs0 : 0 ≤ s) (hs1 : s < 256) (he0 : 0 ≤ e) (he1 : e < 8) : spec_l2Has.f s e = some (has s e) := by
  have h : ∀ (s : Fin 256) (e : Fin 8), spec_l2Has.f (s.val : Int) (e.val : Int) = some (has s.val e.val) := by decide +kernel
  exact fin256 (P := fun s => spec_l2Has.f s e = some (has s e)) (fun s => fin8 (P := fun e => spec_l2Has.f (s.val : Int) e = some (has s.val e)) (h s) he0 he1) hs0 hs1
def full (n : Int) : Int := 2 ^ n.toNat - 1
def isSize (n : Int) : Bool := decide (0 ≤ n) && decide (n ≤ 8)
def isSet (n s : Int) : Bool := isSize n && decide (0 ≤ s) && decide (s ≤ full n)
theorem isSize_iff {n : Int} : isSize n = true ↔ 0 ≤ n ∧ n ≤ 8 := by simp [isSize]
theorem isSet_iff {n s : Int} : isSet n s = true ↔ (0 ≤ n ∧ n ≤ 8) ∧ 0 ≤ s ∧ s ≤ full n := by simp [isSet, isSize]; grind
theorem fin9 {P : Int → Prop} (h : ∀ s : Fin 9, P (s.val : Int)) {s : Int} (h0 : 0 ≤ s) (h1 : s ≤ 8) : P s := by
  have := h ⟨s.toNat, by omega⟩
  rwa [show ((s.toNat : Nat) : Int) = s by omega] at this
theorem full_le {n : Int} (h0 : 0 ≤ n) (h1 : n ≤ 8) : full n < 256 := fin9 (P := fun n => full n < 256) (by decide) h0 h1
theorem full_eq {n : Int} (h0 : 0 ≤ n) (h1 : n ≤ 8) : wrap64 (shl .i64 1 (IntKind.u64.wrap n) - 1) = full n := fin9 (P := fun n => wrap64 (shl .i64 1 (IntKind.u64.wrap n) - 1) = full n) (by decide +kernel) h0 h1
theorem u64_nonneg (n : Int) : 0 ≤ IntKind.u64.wrap n := by
  show 0 ≤ n % _
  exact Int.emod_nonneg _ (by decide)
theorem spec_l1In.is (a b c : Int) : spec_l1In.f a b c = some (decide (b ≤ a) && decide (a ≤ c)) := by
  unfold spec_l1In.f
  by_cases h : a ≥ b
  · rw [if_pos h]; have : b ≤ a := h; simp [this]
  · rw [if_neg h]; have : ¬ b ≤ a := h; simp [this]
theorem spec_IsSet.is (n s : Int) : spec_IsSet.f n s = some (isSet n s) := by
  unfold spec_IsSet.f
  rw [spec_l1In.is]
  by_cases h : 0 ≤ n ∧ n ≤ 8
  · obtain ⟨h0, h1⟩ := h
    have e : (decide (0 ≤ n) && decide (n ≤ 8)) = true := by simp [h0, h1]
    simp only [Option.bind_some, e, if_true]
    rw [if_pos (u64_nonneg n), spec_l1In.is, full_eq h0 h1]
    simp [isSet, isSize, h0, h1]
  · have e : (decide (0 ≤ n) && decide (n ≤ 8)) = false := by
      simp only [Bool.and_eq_false_iff, decide_eq_false_iff_not]; omega
    simp only [Option.bind_some, e]
    simp [isSet, isSize, e]
def allN (P : Nat → Bool) : Nat → Nat → Bool
  | _, 0 => true
  | i, d + 1 => P i && allN P (i + 1) d
def anyN (P : Nat → Bool) : Nat → Nat → Bool
  | _, 0 => false
  | i, d + 1 => P i || anyN P (i + 1) d
theorem allN_iff {P : Nat → Bool} {d i : Nat} : allN P i d = true ↔ ∀ j, i ≤ j → j < i + d → P j = true := by
  induction d generalizing i with
  | zero => simp [allN]; intro j h1 h2; omega
  | succ d ih =>
    simp only [allN, Bool.and_eq_true, ih]
    constructor
    · intro ⟨h1, h2⟩ j hj hj2
      by_cases e : j = i
      · subst e; exact h1
      · exact h2 j (by omega) (by omega)
    · intro h
      exact ⟨h i (by omega) (by omega), fun j h1 h2 => h j (by omega) (by omega)⟩
theorem anyN_iff {P : Nat → Bool} {d i : Nat} : anyN P i d = true ↔ ∃ j, i ≤ j ∧ j < i + d ∧ P j = true := by
  induction d generalizing i with
  | zero => simp [anyN]; intro j h1 h2; omega
  | succ d ih =>
    simp only [anyN, Bool.or_eq_true, ih]
    constructor
    · rintro (h | ⟨j, h1, h2, h3⟩)
      · exact ⟨i, by omega, by omega, h⟩
      · exact ⟨j, by omega, by omega, h3⟩
    · rintro ⟨j, h1, h2, h3⟩
      by_cases e : j = i
      · subst e; exact .inl h3
      · exact .inr ⟨j, by omega, by omega, h3⟩
theorem anyN_congr {P Q : Nat → Bool} {i d : Nat} (h : ∀ j, i ≤ j → j < i + d → P j = Q j) : anyN P i d = anyN Q i d := by
  induction d generalizing i with
  | zero => rfl
  | succ d ih => simp only [anyN]; rw [h i (by omega) (by omega), ih (fun j h1 h2 => h j (by omega) (by omega))]
theorem impl_isSize.is (n : Int) : impl_isSize.f n = some (isSize n) := by
  unfold impl_isSize.f isSize
  by_cases h : n ≥ 0
  · rw [if_pos h]; have : 0 ≤ n := h; simp [this]
  · rw [if_neg h]; have : ¬ 0 ≤ n := h; simp [this]
theorem shl_full {n : Int} (h0 : 0 ≤ n) (h1 : n ≤ 8) : shl .i64 1 n = full n + 1 := fin9 (P := fun n => shl .i64 1 n = full n + 1) (by decide +kernel) h0 h1
theorem impl_IsSet.is (n s : Int) : impl_IsSet.f n s = some (isSet n s) := by
  unfold impl_IsSet.f
  rw [impl_isSize.is]
  simp only [Option.bind_some]
  by_cases h : isSize n = true
  · rw [if_pos h]
    have hn := isSize_iff.1 h
    by_cases hs : s ≥ 0
    · rw [if_pos hs, if_pos hn.1, shl_full hn.1 hn.2]
      have : 0 ≤ s := hs
      simp only [isSet, h, this, decide_true, Bool.and_true, Bool.true_and]
      congr 1
      exact decide_eq_decide.2 (by omega)
    · rw [if_neg hs]
      have : ¬ 0 ≤ s := hs
      simp [isSet, this]
  · rw [if_neg h]
    have : isSize n = false := by simpa using h
    simp [isSet, this]
def famOk (n : Int) (l : List Int) (i : Nat) : Bool := isSet n (rd l i) && (i == 0 || decide (rd l ((i : Int) - 1) < rd l i))
def fam (n : Int) (l : List Int) : Bool := allN (famOk n l) 0 l.length && isSize n
theorem spec_IsFamily.loop (n : Int) (l : List Int) (hl : l.length ≤ maxLen) : ∀ d i, i + d = l.length → Ev (fun k => spec_IsFamily.l0 k n l (i : Int)) (allN (famOk n l) i d && isSize n) := by
  have hm : maxLen = 9223372036854775807 := by decide
  intro d
  induction d with
  | zero =>
    intro i hi
    refine Ev.succ ?_
    simp only [spec_IsFamily.l0]
    refine Ev.neg (by omega) ?_
    rw [spec_l1In.is]
    exact Ev.of (by simp [allN, isSize])
  | succ d ih =>
    intro i hi
    refine Ev.succ ?_
    simp only [spec_IsFamily.l0]
    refine Ev.pos (by omega) (Ev.pos (by omega) ?_)
    rw [spec_IsSet.is]
    simp only [Option.bind_some]
    have hw : wrap64 ((i : Int) + 1) = ((i + 1 : Nat) : Int) := by rw [w64 (by omega) (by omega)]; omega
    by_cases hs : isSet n (rd l i) = true
    · refine Ev.pos hs ?_
      by_cases h0 : (i : Int) > 0
      · refine Ev.pos h0 ?_
        rw [w64 (n := (i : Int) - 1) (by omega) (by omega)]
        refine Ev.pos (by omega) (Ev.pos (by omega) ?_)
        by_cases hc : rd l ((i : Int) - 1) ≥ rd l i
        · refine Ev.pos hc ?_
          have hne : i ≠ 0 := by omega
          have : ¬ rd l ((i : Int) - 1) < rd l i := by omega
          exact Ev.of (by simp [allN, famOk, hne, this])
        · refine Ev.neg hc ?_
          rw [hw]
          have : rd l ((i : Int) - 1) < rd l i := by omega
          have e : famOk n l i = true := by simp [famOk, hs, this]
          have := ih (i + 1) (by omega)
          rwa [show allN (famOk n l) i (d + 1) = allN (famOk n l) (i + 1) d by simp [allN, e]]
      · refine Ev.neg h0 ?_
        rw [hw]
        have h1 : i = 0 := by omega
        have e : famOk n l i = true := by subst h1; simpa [famOk] using hs
        have := ih (i + 1) (by omega)
        rwa [show allN (famOk n l) i (d + 1) = allN (famOk n l) (i + 1) d by simp [allN, e]]
    · refine Ev.neg hs ?_
      exact Ev.of (by simp [allN, famOk, hs])
theorem spec_IsFamily.is (n : Int) (l : List Int) (hl : l.length ≤ maxLen) : Ev (fun k => spec_IsFamily.f k n l) (fam n l) := by
  have := spec_IsFamily.loop n l hl l.length 0 (by omega)
  exact this
theorem impl_IsFamily.loop (n : Int) (l : List Int) (hl : l.length ≤ maxLen) : ∀ d i, i + d = l.length → Ev (fun k => impl_IsFamily.l0 k n l l (l.length : Int) (i : Int)) (allN (famOk n l) i d && isSize n) := by
  have hm : maxLen = 9223372036854775807 := by decide
  intro d
  induction d with
  | zero =>
    intro i hi
    refine Ev.succ ?_
    simp only [impl_IsFamily.l0]
    refine Ev.neg (by omega) ?_
    rw [impl_isSize.is]
    exact Ev.of (by simp [allN])
  | succ d ih =>
    intro i hi
    refine Ev.succ ?_
    simp only [impl_IsFamily.l0]
    refine Ev.pos (by omega) (Ev.pos (by omega) (Ev.pos (by omega) ?_))
    rw [impl_IsSet.is]
    simp only [Option.bind_some]
    have hw : wrap64 ((i : Int) + 1) = ((i + 1 : Nat) : Int) := by rw [w64 (by omega) (by omega)]; omega
    by_cases hs : isSet n (rd l i) = true
    · refine Ev.pos hs ?_
      by_cases h0 : (i : Int) > 0
      · refine Ev.pos h0 ?_
        rw [w64 (n := (i : Int) - 1) (by omega) (by omega)]
        refine Ev.pos (by omega) (Ev.pos (by omega) ?_)
        by_cases hc : rd l i ≤ rd l ((i : Int) - 1)
        · refine Ev.pos hc ?_
          have hne : i ≠ 0 := by omega
          have : ¬ rd l ((i : Int) - 1) < rd l i := by omega
          exact Ev.of (by simp [allN, famOk, hne, this])
        · refine Ev.neg hc ?_
          rw [hw]
          have : rd l ((i : Int) - 1) < rd l i := by omega
          have e : famOk n l i = true := by simp [famOk, hs, this]
          have := ih (i + 1) (by omega)
          rwa [show allN (famOk n l) i (d + 1) = allN (famOk n l) (i + 1) d by simp [allN, e]]
      · refine Ev.neg h0 ?_
        rw [hw]
        have h1 : i = 0 := by omega
        have e : famOk n l i = true := by subst h1; simpa [famOk] using hs
        have := ih (i + 1) (by omega)
        rwa [show allN (famOk n l) i (d + 1) = allN (famOk n l) (i + 1) d by simp [allN, e]]
    · refine Ev.neg hs ?_
      exact Ev.of (by simp [allN, famOk, hs])
theorem impl_IsFamily.is (n : Int) (l : List Int) (hl : l.length ≤ maxLen) : Ev (fun k => impl_IsFamily.f k n l) (fam n l) := by
  have := impl_IsFamily.loop n l hl l.length 0 (by omega)
  exact this
theorem wrap_i64_nat {a : Nat} (h : a < 9223372036854775808) : IntKind.i64.wrap (a : Int) = (a : Int) := by
  rw [i64_w]; exact w64 (by omega) (by omega)
theorem ofInt_nat {a : Nat} (h : a < 256) : (BitVec.ofInt 64 (a : Int)).toNat = a := by
  rw [BitVec.ofInt_natCast, BitVec.toNat_ofNat]; exact Nat.mod_eq_of_lt (by omega)
theorem testBit_hi {a e : Nat} (h : a < 256) (he : 8 ≤ e) : a.testBit e = false :=
  Nat.testBit_lt_two_pow (Nat.lt_of_lt_of_le (show a < 2 ^ 8 from h) (Nat.pow_le_pow_right (by decide) he))
def dif (a b : Nat) : Nat := a &&& (b ^^^ 255)
theorem dif_lt {a b : Nat} (ha : a < 256) : dif a b < 256 := Nat.lt_of_le_of_lt Nat.and_le_left ha
theorem testBit_255 {e : Nat} (he : e < 8) : (255 : Nat).testBit e = true := by
  have h : ∀ e : Fin 8, (255 : Nat).testBit e.val = true := by decide
  exact h ⟨e, he⟩
theorem dif_bit {a b e : Nat} (he : e < 8) : (dif a b).testBit e = (a.testBit e && !b.testBit e) := by
  unfold dif
  rw [Nat.testBit_and, Nat.testBit_xor, testBit_255 he]
  cases a.testBit e <;> cases b.testBit e <;> rfl
theorem bits_andNot {a b : Nat} (ha : a < 256) (hb : b < 256) : Go.bits .andNot .i64 (a : Int) (b : Int) = ((dif a b : Nat) : Int) := by
  have e : (BitVec.ofInt 64 (a : Int) &&& ~~~ BitVec.ofInt 64 (b : Int)).toNat = dif a b := by
    refine Nat.eq_of_testBit_eq (fun i => ?_)
    rw [BitVec.testBit_toNat, BitVec.getLsbD_and, BitVec.getLsbD_not, ← BitVec.testBit_toNat, ← BitVec.testBit_toNat, ofInt_nat ha, ofInt_nat hb]
    by_cases hi : i < 8
    · rw [dif_bit hi]; have : i < 64 := by omega
      simp [this]
    · rw [testBit_hi ha (by omega), testBit_hi (dif_lt ha) (by omega)]; simp
  show IntKind.i64.wrap ((BitVec.ofInt 64 (a : Int) &&& ~~~ BitVec.ofInt 64 (b : Int)).toNat : Int) = _
  rw [e]
  exact wrap_i64_nat (Nat.lt_of_lt_of_le (dif_lt ha) (by decide))
theorem or_lt {a b : Nat} (ha : a < 256) (hb : b < 256) : a ||| b < 256 := Nat.or_lt_two_pow (n := 8) ha hb
theorem bits_or {a b : Nat} (ha : a < 256) (hb : b < 256) : Go.bits .or .i64 (a : Int) (b : Int) = ((a ||| b : Nat) : Int) := by
  have e : (BitVec.ofInt 64 (a : Int) ||| BitVec.ofInt 64 (b : Int)).toNat = a ||| b := by
    rw [BitVec.toNat_or, ofInt_nat ha, ofInt_nat hb]
  show IntKind.i64.wrap ((BitVec.ofInt 64 (a : Int) ||| BitVec.ofInt 64 (b : Int)).toNat : Int) = _
  rw [e]
  exact wrap_i64_nat (Nat.lt_of_lt_of_le (or_lt ha hb) (by decide))
theorem has_nat (a e : Nat) : has (a : Int) (e : Int) = a.testBit e := by
  unfold has
  rw [Nat.testBit_eq_decide_div_mod_eq]
  refine decide_eq_decide.2 ?_
  rw [show ((e : Int)).toNat = e by omega]
  have : (a : Int) / 2 ^ e % 2 = ((a / 2 ^ e % 2 : Nat) : Int) := by simp
  rw [this]; omega
theorem impl_HasElement.is (s e : Int) : impl_HasElement.f s e = some (decide (0 ≤ s) && decide (s < 256) && decide (0 ≤ e) && decide (e < 8) && has s e) := by
  have h : ∀ (s : Fin 256) (e : Fin 8), impl_HasElement.f (s.val : Int) (e.val : Int) = some (has s.val e.val) := by decide +kernel
  by_cases hs : 0 ≤ s ∧ s < 256
  · by_cases he : 0 ≤ e ∧ e < 8
    · rw [fin256 (P := fun s => impl_HasElement.f s e = some (has s e)) (fun s => fin8 (P := fun e => impl_HasElement.f (s.val : Int) e = some (has s.val e)) (h s) he.1 he.2) hs.1 hs.2]
      simp [hs, he]
    · have e1 : impl_isAny.f s = some true := by
        unfold impl_isAny.f; rw [if_pos hs.1]; simp [hs.2]
      unfold impl_HasElement.f
      rw [e1]; simp only [Option.bind_some, if_true]
      by_cases h0 : e ≥ 0
      · rw [if_pos h0]
        have : ¬ e < 8 := by omega
        rw [if_neg this]; simp [this]
      · rw [if_neg h0]
        have : ¬ 0 ≤ e := h0
        simp [this]
  · have e1 : impl_isAny.f s = some false := by
      unfold impl_isAny.f
      by_cases h0 : s ≥ 0
      · rw [if_pos h0]; have : ¬ s < 256 := by omega
        simp [this]
      · rw [if_neg h0]
    unfold impl_HasElement.f
    rw [e1]
    have : (decide (0 ≤ s) && decide (s < 256)) = false := by simp only [Bool.and_eq_false_iff, decide_eq_false_iff_not]; omega
    simp [this]
theorem maxLen_eq : maxLen = 9223372036854775807 := by decide
theorem wnext {i : Nat} (h : i < 9223372036854775807) : wrap64 ((i : Int) + 1) = ((i + 1 : Nat) : Int) := by rw [w64 (by omega) (by omega)]; omega
theorem rd_nat {l : List Int} {i : Nat} (h : i < l.length) : rd l (i : Int) = l[i] := by
  rw [rd, List.getD_eq_getElem?_getD, show ((i : Int)).toNat = i by omega, List.getElem?_eq_getElem h]; rfl
theorem rd_mem {l : List Int} {i : Nat} (h : i < l.length) : rd l (i : Int) ∈ l := by rw [rd_nat h]; exact List.getElem_mem h
theorem hasI_iff {l : List Int} {x : Int} : hasI l x = true ↔ ∃ i, i < l.length ∧ rd l (i : Int) = x := by
  simp only [hasI, decide_eq_true_eq, List.mem_iff_getElem]
  constructor
  · rintro ⟨i, h, e⟩; exact ⟨i, h, (rd_nat h).trans e⟩
  · rintro ⟨i, h, e⟩; exact ⟨i, h, (rd_nat h).symm.trans e⟩
theorem spec_HasSet.is (l : List Int) (x : Int) (hl : l.length ≤ maxLen) : Ev (fun k => spec_HasSet.f k l x) (hasI l x) := by
  have hm := maxLen_eq
  have key : ∀ d i, i + d = l.length → Ev (fun k => spec_HasSet.l0 k l x (i : Int)) (anyN (fun j => decide (rd l (j : Int) = x)) i d) := by
    intro d
    induction d with
    | zero =>
      intro i hi
      refine Ev.succ ?_
      simp only [spec_HasSet.l0]
      exact Ev.neg (by omega) (Ev.of rfl)
    | succ d ih =>
      intro i hi
      refine Ev.succ ?_
      simp only [spec_HasSet.l0]
      refine Ev.pos (by omega) (Ev.pos (by omega) ?_)
      by_cases h : rd l (i : Int) = x
      · exact Ev.pos h (Ev.of (by simp [anyN, h]))
      · refine Ev.neg h ?_
        rw [wnext (by omega)]
        have := ih (i + 1) (by omega)
        rwa [show anyN (fun j => decide (rd l (j : Int) = x)) i (d + 1) = anyN (fun j => decide (rd l (j : Int) = x)) (i + 1) d by simp [anyN, h]]
  have h := key l.length 0 (by omega)
  have e : anyN (fun j => decide (rd l (j : Int) = x)) 0 l.length = hasI l x := by
    rw [Bool.eq_iff_iff, anyN_iff, hasI_iff]
    constructor
    · rintro ⟨j, _, h2, h3⟩; exact ⟨j, by omega, by simpa using h3⟩
    · rintro ⟨j, h2, h3⟩; exact ⟨j, by omega, by omega, by simpa using h3⟩
  rw [e] at h
  exact h
def xch (a e f : Int) : Int := a - 2 ^ e.toNat + 2 ^ f.toNat
theorem xch_spec {a e f : Int} (ha0 : 0 ≤ a) (ha1 : a < 256) (he0 : 0 ≤ e) (he1 : e < 8) (hf0 : 0 ≤ f) (hf1 : f < 8) :
    wrap64 (wrap64 (a - shl .i64 1 (IntKind.u64.wrap e)) + shl .i64 1 (IntKind.u64.wrap f)) = xch a e f := by
  have hs : ∀ e : Fin 8, shl .i64 1 (IntKind.u64.wrap (e.val : Int)) = 2 ^ ((e.val : Int)).toNat ∧ (2 : Int) ^ ((e.val : Int)).toNat ≤ 128 ∧ 1 ≤ (2 : Int) ^ ((e.val : Int)).toNat := by decide +kernel
  have h1 := fin8 (P := fun e => shl .i64 1 (IntKind.u64.wrap e) = 2 ^ e.toNat ∧ (2 : Int) ^ e.toNat ≤ 128 ∧ 1 ≤ (2 : Int) ^ e.toNat) hs he0 he1
  have h2 := fin8 (P := fun e => shl .i64 1 (IntKind.u64.wrap e) = 2 ^ e.toNat ∧ (2 : Int) ^ e.toNat ≤ 128 ∧ 1 ≤ (2 : Int) ^ e.toNat) hs hf0 hf1
  rw [h1.1, h2.1, w64 (n := a - 2 ^ e.toNat) (by omega) (by omega), w64 (by omega) (by omega)]
  rfl
def exB (n : Nat) (l : List Int) (a b e : Int) : Bool := anyN (fun f => has b f && !has a f && hasI l (xch a e f)) 0 n
theorem spec_l4Exchange.is (n : Nat) (hn : n ≤ 8) (l : List Int) (hl : l.length ≤ maxLen) (a b e : Int) (ha0 : 0 ≤ a) (ha1 : a < 256) (hb0 : 0 ≤ b) (hb1 : b < 256) (he0 : 0 ≤ e) (he1 : e < 8) :
    Ev (fun k => spec_l4Exchange.f k (n : Int) l a b e) (exB n l a b e) := by
  have key : ∀ d i, i + d = n → Ev (fun k => spec_l4Exchange.l0 k a b e (i : Int) (n : Int) l) (anyN (fun f => has b f && !has a f && hasI l (xch a e f)) i d) := by
    intro d
    induction d with
    | zero =>
      intro i hi
      refine Ev.succ ?_
      simp only [spec_l4Exchange.l0]
      exact Ev.neg (by omega) (Ev.of rfl)
    | succ d ih =>
      intro i hi
      have hi2 := ih (i + 1) (by omega)
      refine Ev.succ ?_
      simp only [spec_l4Exchange.l0]
      refine Ev.pos (by omega) ?_
      rw [spec_l2Has.is hb0 hb1 (by omega) (by omega), spec_l2Has.is ha0 ha1 (by omega) (by omega)]
      simp only [Option.bind_some]
      rw [wnext (by omega)]
      by_cases h1 : has b i = true
      · refine Ev.pos h1 ?_
        by_cases h2 : has a i = true
        · refine Ev.pos h2 ?_
          rwa [show anyN (fun f => has b f && !has a f && hasI l (xch a e f)) i (d + 1) = anyN (fun f => has b f && !has a f && hasI l (xch a e f)) (i + 1) d by simp [anyN, h1, h2]]
        · refine Ev.neg h2 (Ev.pos (u64_nonneg _) (Ev.pos (u64_nonneg _) ?_))
          rw [xch_spec ha0 ha1 he0 he1 (by omega) (by omega)]
          refine Ev.bind (spec_HasSet.is l _ hl) ?_
          by_cases h3 : hasI l (xch a e i) = true
          · exact Ev.pos h3 (Ev.of (by simp [anyN, h1, h2, h3]))
          · refine Ev.neg h3 ?_
            rwa [show anyN (fun f => has b f && !has a f && hasI l (xch a e f)) i (d + 1) = anyN (fun f => has b f && !has a f && hasI l (xch a e f)) (i + 1) d by simp [anyN, h1, h2, h3]]
      · refine Ev.neg h1 ?_
        rwa [show anyN (fun f => has b f && !has a f && hasI l (xch a e f)) i (d + 1) = anyN (fun f => has b f && !has a f && hasI l (xch a e f)) (i + 1) d by simp [anyN, h1]]
  exact key n 0 (by omega)
def badE (n : Nat) (l : List Int) (a b e : Int) : Bool := has a e && !has b e && !exB n l a b e
def badB (n : Nat) (l : List Int) (a b : Int) : Bool := anyN (fun e => badE n l a b e) 0 n
def badA (n : Nat) (l : List Int) (a : Int) : Bool := anyN (fun j => badB n l a (rd l (j : Int))) 0 l.length
def bad (n : Nat) (l : List Int) : Bool := anyN (fun i => badA n l (rd l (i : Int))) 0 l.length
def Flag (f : Nat → Option (Int × Int × Int × Bool)) (b : Bool) : Prop := ∃ v, Ev f v ∧ v.2.2.2 = b
theorem spec_FirstFailure.flag (n : Nat) (hn : n ≤ 8) (l : List Int) (hl : l.length ≤ maxLen) (hr : ∀ x ∈ l, 0 ≤ x ∧ x < 256) :
    Flag (fun k => spec_FirstFailure.l0 k 0 (n : Int) l) (bad n l) := by
  have hm := maxLen_eq
  have k2 : ∀ i j : Nat, i < l.length → j < l.length → ∀ b, Flag (fun k => spec_FirstFailure.l1 k (i : Int) ((j + 1 : Nat) : Int) (n : Int) l) b → ∀ d e : Nat, e + d = n →
      Flag (fun k => spec_FirstFailure.l2 k (i : Int) (j : Int) (e : Int) (n : Int) l) (anyN (fun e => badE n l (rd l (i : Int)) (rd l (j : Int)) e) e d || b) := by
    intro i j hi hj b hb d
    have ha := hr _ (rd_mem hi)
    have hb' := hr _ (rd_mem hj)
    induction d with
    | zero =>
      intro e he
      obtain ⟨v, hv, hf⟩ := hb
      refine ⟨v, Ev.succ ?_, by simp [anyN, hf]⟩
      simp only [spec_FirstFailure.l2]
      refine Ev.neg (by omega) ?_
      rw [wnext (by omega)]; exact hv
    | succ d ih =>
      intro e he
      obtain ⟨v, hv, hf⟩ := ih (e + 1) (by omega)
      have go : badE n l (rd l (i : Int)) (rd l (j : Int)) e = false → v.2.2.2 = (anyN (fun e => badE n l (rd l (i : Int)) (rd l (j : Int)) e) e (d + 1) || b) := fun h => by
        rw [hf]; simp [anyN, h]
      by_cases h1 : has (rd l (i : Int)) (e : Int) = true
      · by_cases h2 : has (rd l (j : Int)) (e : Int) = true
        · refine ⟨v, Ev.succ ?_, go (by simp [badE, h2])⟩
          simp only [spec_FirstFailure.l2]
          refine Ev.pos (by omega) (Ev.pos (by omega) (Ev.pos (by omega) (Ev.pos (by omega) (Ev.pos (by omega) ?_))))
          rw [spec_l2Has.is ha.1 ha.2 (by omega) (by omega), spec_l2Has.is hb'.1 hb'.2 (by omega) (by omega)]
          simp only [Option.bind_some]
          rw [wnext (by omega)]
          exact Ev.pos h1 (Ev.pos h2 hv)
        · have hx := spec_l4Exchange.is n hn l hl (rd l (i : Int)) (rd l (j : Int)) (e : Int) ha.1 ha.2 hb'.1 hb'.2 (by omega) (by omega)
          by_cases h3 : exB n l (rd l (i : Int)) (rd l (j : Int)) (e : Int) = true
          · refine ⟨v, Ev.succ ?_, go (by simp [badE, h3])⟩
            simp only [spec_FirstFailure.l2]
            refine Ev.pos (by omega) (Ev.pos (by omega) (Ev.pos (by omega) (Ev.pos (by omega) (Ev.pos (by omega) ?_))))
            rw [spec_l2Has.is ha.1 ha.2 (by omega) (by omega), spec_l2Has.is hb'.1 hb'.2 (by omega) (by omega)]
            simp only [Option.bind_some]
            rw [wnext (by omega)]
            exact Ev.pos h1 (Ev.neg h2 (Ev.bind hx (Ev.pos h3 hv)))
          · refine ⟨(rd l (i : Int), rd l (j : Int), (e : Int), true), Ev.succ ?_, by simp [anyN, badE, h1, h2, h3]⟩
            simp only [spec_FirstFailure.l2]
            refine Ev.pos (by omega) (Ev.pos (by omega) (Ev.pos (by omega) (Ev.pos (by omega) (Ev.pos (by omega) ?_))))
            rw [spec_l2Has.is ha.1 ha.2 (by omega) (by omega), spec_l2Has.is hb'.1 hb'.2 (by omega) (by omega)]
            simp only [Option.bind_some]
            exact Ev.pos h1 (Ev.neg h2 (Ev.bind hx (Ev.neg h3 (Ev.of rfl))))
      · refine ⟨v, Ev.succ ?_, go (by simp [badE, h1])⟩
        simp only [spec_FirstFailure.l2]
        refine Ev.pos (by omega) (Ev.pos (by omega) (Ev.pos (by omega) (Ev.pos (by omega) (Ev.pos (by omega) ?_))))
        rw [spec_l2Has.is ha.1 ha.2 (by omega) (by omega)]
        simp only [Option.bind_some]
        rw [wnext (by omega)]
        exact Ev.neg h1 hv
  have k1 : ∀ i : Nat, i < l.length → ∀ b, Flag (fun k => spec_FirstFailure.l0 k ((i + 1 : Nat) : Int) (n : Int) l) b → ∀ d j : Nat, j + d = l.length →
      Flag (fun k => spec_FirstFailure.l1 k (i : Int) (j : Int) (n : Int) l) (anyN (fun j => badB n l (rd l (i : Int)) (rd l (j : Int))) j d || b) := by
    intro i hi b hb d
    induction d with
    | zero =>
      intro j hj
      obtain ⟨v, hv, hf⟩ := hb
      refine ⟨v, Ev.succ ?_, by simp [anyN, hf]⟩
      simp only [spec_FirstFailure.l1]
      refine Ev.neg (by omega) ?_
      rw [wnext (by omega)]; exact hv
    | succ d ih =>
      intro j hj
      obtain ⟨v, hv, hf⟩ := k2 i j hi (by omega) _ (ih (j + 1) (by omega)) n 0 (by omega)
      refine ⟨v, Ev.succ ?_, by rw [hf]; simp [anyN, badB, Bool.or_assoc]⟩
      simp only [spec_FirstFailure.l1]
      exact Ev.pos (by omega) hv
  have k0 : ∀ d i : Nat, i + d = l.length → Flag (fun k => spec_FirstFailure.l0 k (i : Int) (n : Int) l) (anyN (fun i => badA n l (rd l (i : Int))) i d) := by
    intro d
    induction d with
    | zero =>
      intro i hi
      refine ⟨(0, 0, 0, false), Ev.succ ?_, rfl⟩
      simp only [spec_FirstFailure.l0]
      exact Ev.neg (by omega) (Ev.of rfl)
    | succ d ih =>
      intro i hi
      obtain ⟨v, hv, hf⟩ := k1 i (by omega) _ (ih (i + 1) (by omega)) l.length 0 (by omega)
      refine ⟨v, Ev.succ ?_, by rw [hf]; simp [anyN, badA]⟩
      simp only [spec_FirstFailure.l0]
      exact Ev.pos (by omega) hv
  exact k0 l.length 0 (by omega)
theorem fam_iff {n : Int} {l : List Int} : fam n l = true ↔ (0 ≤ n ∧ n ≤ 8) ∧ ∀ i : Nat, i < l.length → (0 ≤ rd l i ∧ rd l i ≤ full n) ∧ (i ≠ 0 → rd l ((i : Int) - 1) < rd l i) := by
  simp only [fam, Bool.and_eq_true, allN_iff, isSize_iff, famOk, isSet_iff]
  constructor
  · rintro ⟨h, hn⟩
    refine ⟨hn, fun i hi => ?_⟩
    have := h i (by omega) (by omega)
    refine ⟨this.1.2, fun h0 => ?_⟩
    simpa [h0] using this.2
  · rintro ⟨hn, h⟩
    refine ⟨fun i _ hi => ?_, hn⟩
    have := h i (by omega)
    refine ⟨⟨hn, this.1⟩, ?_⟩
    by_cases h0 : i = 0
    · simp [h0]
    · simpa [h0] using this.2 h0
theorem fam_mem {n : Int} {l : List Int} (h : fam n l = true) : ∀ x ∈ l, 0 ≤ x ∧ x ≤ full n := by
  intro x hx
  obtain ⟨i, hi, e⟩ := List.mem_iff_getElem.1 hx
  have := ((fam_iff.1 h).2 i hi).1
  rwa [rd_nat hi, e] at this
theorem fam_lt {n : Int} {l : List Int} (h : fam n l = true) : ∀ x ∈ l, 0 ≤ x ∧ x < 256 := by
  intro x hx
  have h1 := fam_mem h x hx
  have hn := (fam_iff.1 h).1
  exact ⟨h1.1, Int.lt_of_le_of_lt h1.2 (full_le hn.1 hn.2)⟩
def matr (n : Int) (l : List Int) : Bool := fam n l && decide (0 < l.length) && !bad n.toNat l
theorem spec_IsMatroid.is (n : Int) (l : List Int) (hl : l.length ≤ maxLen) : Ev (fun k => spec_IsMatroid.f k n l) (matr n l) := by
  have hfam := spec_IsFamily.is n l hl
  unfold spec_IsMatroid.f
  by_cases h : fam n l = true
  · obtain ⟨hn, _⟩ := fam_iff.1 h
    obtain ⟨v, hv, hf⟩ := spec_FirstFailure.flag n.toNat (by omega) l hl (fam_lt h)
    have hn2 : ((n.toNat : Nat) : Int) = n := by omega
    rw [hn2] at hv
    have h1 : Ev (fun k => spec_FirstFailure.f k n l) v := by
      unfold spec_FirstFailure.f
      exact Ev.bind hfam (Ev.pos h hv)
    refine Ev.bind h1 (Ev.bind hfam (Ev.pos h ?_))
    by_cases h0 : (l.length : Int) > 0
    · exact Ev.pos h0 (Ev.of (by have : 0 < l.length := by omega
                                 simp [matr, h, this, hf]))
    · exact Ev.neg h0 (Ev.of (by have : ¬ 0 < l.length := by omega
                                 simp only [matr, this]; simp))
  · have h1 : Ev (fun k => spec_FirstFailure.f k n l) (0, 0, 0, false) := by
      unfold spec_FirstFailure.f
      exact Ev.bind hfam (Ev.neg h (Ev.of rfl))
    exact Ev.bind h1 (Ev.bind hfam (Ev.neg h (Ev.of (by simp [matr, h]))))
def elsFrom (s : Nat) : Nat → Nat → List Int
  | _, 0 => []
  | i, d + 1 => if s.testBit i then (i : Int) :: elsFrom s (i + 1) d else elsFrom s (i + 1) d
def els (s : Nat) : List Int := elsFrom s 0 8
theorem mem_elsFrom {s : Nat} {x : Int} : ∀ {d i : Nat}, x ∈ elsFrom s i d ↔ ∃ j : Nat, i ≤ j ∧ j < i + d ∧ s.testBit j = true ∧ x = (j : Int) := by
  intro d
  induction d with
  | zero => intro i; simp [elsFrom]; intro j h1 h2; omega
  | succ d ih =>
    intro i
    have step : (∃ j : Nat, i ≤ j ∧ j < i + (d + 1) ∧ s.testBit j = true ∧ x = (j : Int)) ↔ (s.testBit i = true ∧ x = (i : Int)) ∨ ∃ j : Nat, i + 1 ≤ j ∧ j < i + 1 + d ∧ s.testBit j = true ∧ x = (j : Int) := by
      constructor
      · rintro ⟨j, h1, h2, h3, h4⟩
        by_cases e : j = i
        · subst e; exact .inl ⟨h3, h4⟩
        · exact .inr ⟨j, by omega, by omega, h3, h4⟩
      · rintro (⟨h1, h2⟩ | ⟨j, h1, h2, h3, h4⟩)
        · exact ⟨i, by omega, by omega, h1, h2⟩
        · exact ⟨j, by omega, by omega, h3, h4⟩
    rw [step]
    by_cases h : s.testBit i = true
    · simp only [elsFrom, h, if_true, List.mem_cons, ih, true_and]
    · simp only [elsFrom, h, false_and, false_or]; simp; exact ih
theorem mem_els {s : Nat} {x : Int} : x ∈ els s ↔ ∃ j : Nat, j < 8 ∧ s.testBit j = true ∧ x = (j : Int) := by
  unfold els
  rw [mem_elsFrom]
  constructor
  · rintro ⟨j, _, h2, h3, h4⟩; exact ⟨j, by omega, h3, h4⟩
  · rintro ⟨j, h2, h3, h4⟩; exact ⟨j, by omega, by omega, h3, h4⟩
theorem elsFrom_length {s : Nat} : ∀ {d i : Nat}, (elsFrom s i d).length ≤ d := by
  intro d
  induction d with
  | zero => intro i; simp [elsFrom]
  | succ d ih =>
    intro i
    by_cases h : s.testBit i = true
    · simp only [elsFrom, h, if_true, List.length_cons]; have := ih (i := i + 1); omega
    · simp only [elsFrom, h]; have := ih (i := i + 1); simp; omega
theorem els_length {s : Nat} : (els s).length ≤ 8 := elsFrom_length
theorem impl_ElementsOf.is {s : Nat} (hs : s < 256) : Ev (fun k => impl_ElementsOf.f k (s : Int)) (els s) := by
  have key : ∀ d i, i + d = 8 → ∀ acc : List Int, acc.length ≤ i → Ev (fun k => impl_ElementsOf.l0 k (s : Int) acc (i : Int)) (acc ++ elsFrom s i d) := by
    intro d
    induction d with
    | zero =>
      intro i hi acc ha
      refine Ev.succ ?_
      simp only [impl_ElementsOf.l0]
      exact Ev.neg (by omega) (Ev.of (by simp [elsFrom]))
    | succ d ih =>
      intro i hi acc ha
      refine Ev.succ ?_
      simp only [impl_ElementsOf.l0]
      refine Ev.pos (by omega) ?_
      have e : impl_HasElement.f (s : Int) (i : Int) = some (s.testBit i) := by
        rw [impl_HasElement.is, has_nat]
        have h1 : (0 : Int) ≤ (s : Int) := by omega
        have h2 : (s : Int) < 256 := by omega
        have h3 : (0 : Int) ≤ (i : Int) := by omega
        have h4 : (i : Int) < 8 := by omega
        simp [h2, h4]
      rw [e]
      simp only [Option.bind_some]
      rw [wnext (by omega)]
      by_cases h : s.testBit i = true
      · refine Ev.pos h (Ev.pos (by omega) ?_)
        have := ih (i + 1) (by omega) (acc ++ [(i : Int)]) (by simp; omega)
        rwa [show acc ++ elsFrom s i (d + 1) = acc ++ [(i : Int)] ++ elsFrom s (i + 1) d by simp [elsFrom, h]]
      · refine Ev.neg h ?_
        have := ih (i + 1) (by omega) acc (by omega)
        rwa [show acc ++ elsFrom s i (d + 1) = acc ++ elsFrom s (i + 1) d by simp [elsFrom, h]]
  have h := key 8 0 (by omega) [] (by simp)
  exact h
theorem xch_impl {a e f : Nat} (ha : a < 256) (he : e < 8) (hf : f < 8) (h1 : a.testBit e = true) (h2 : a.testBit f = false) :
    Go.bits .or .i64 (Go.bits .andNot .i64 (a : Int) (shl .i64 1 (e : Int))) (shl .i64 1 (f : Int)) = xch a e f := by
  have h : ∀ (a : Fin 256) (e f : Fin 8), a.val.testBit e.val = true → a.val.testBit f.val = false →
      Go.bits .or .i64 (Go.bits .andNot .i64 (a.val : Int) (shl .i64 1 (e.val : Int))) (shl .i64 1 (f.val : Int)) = xch a.val e.val f.val := by decide +kernel
  exact h ⟨a, ha⟩ ⟨e, he⟩ ⟨f, hf⟩ h1 h2
def anyEx (l : List Int) (a b : Nat) (e : Int) : Bool := (els (dif b a)).any fun f => hasI l (Go.bits .or .i64 (Go.bits .andNot .i64 (a : Int) (shl .i64 1 e)) (shl .i64 1 f))
theorem impl_FirstFailure.flag (n : Nat) (l : List Int) (hl : l.length ≤ maxLen) (hr : ∀ x ∈ l, 0 ≤ x ∧ x < 256) :
    Flag (fun k => impl_FirstFailure.l0 k l (l.length : Int) 0 (n : Int) l)
      (anyN (fun i => anyN (fun j => anyN (fun t => !anyEx l (rd l (i : Int)).toNat (rd l (j : Int)).toNat (rd (els (dif (rd l (i : Int)).toNat (rd l (j : Int)).toNat)) (t : Int))) 0 (els (dif (rd l (i : Int)).toNat (rd l (j : Int)).toNat)).length) 0 l.length) 0 l.length) := by
  have hm := maxLen_eq
  have k2 : ∀ (i j a b : Nat), i < l.length → j < l.length → rd l (i : Int) = (a : Int) → rd l (j : Int) = (b : Int) → a < 256 → b < 256 → ∀ B, Flag (fun k => impl_FirstFailure.l1 k l (l.length : Int) (i : Int) l (l.length : Int) ((j + 1 : Nat) : Int) (n : Int) l (a : Int)) B → ∀ d t : Nat, t + d = (els (dif a b)).length →
      Flag (fun k => impl_FirstFailure.l2 k (b : Int) l (l.length : Int) (i : Int) l (l.length : Int) (j : Int) (els (dif a b)) ((els (dif a b)).length : Int) (t : Int) (n : Int) l (a : Int)) (anyN (fun t => !anyEx l a b (rd (els (dif a b)) (t : Int))) t d || B) := by
    intro i j a b hi hj ea eb ha hb B hB d
    have h8 := els_length (s := dif a b)
    induction d with
    | zero =>
      intro t ht
      obtain ⟨v, hv, hf⟩ := hB
      refine ⟨v, Ev.succ ?_, by simp [anyN, hf]⟩
      simp only [impl_FirstFailure.l2]
      refine Ev.neg (by omega) ?_
      rw [wnext (by omega)]; exact hv
    | succ d ih =>
      intro t ht
      obtain ⟨v, hv, hf⟩ := ih (t + 1) (by omega)
      obtain ⟨e, he8, _, hre⟩ := mem_els.1 (rd_mem (l := els (dif a b)) (i := t) (by omega))
      have hany : impl_FirstFailure_any.f (els (dif b a)) (n : Int) l (a : Int) (rd (els (dif a b)) (t : Int)) = some (anyEx l a b (rd (els (dif a b)) (t : Int))) := by
        unfold impl_FirstFailure_any.f
        rw [if_pos ⟨by omega, fun x hx => by obtain ⟨j, _, _, h⟩ := mem_els.1 hx; omega, by omega⟩]
        rfl
      have body : ∀ v', (anyEx l a b (rd (els (dif a b)) (t : Int)) = true → Ev (fun k => impl_FirstFailure.l2 k (b : Int) l (l.length : Int) (i : Int) l (l.length : Int) (j : Int) (els (dif a b)) ((els (dif a b)).length : Int) ((t + 1 : Nat) : Int) (n : Int) l (a : Int)) v') →
          (anyEx l a b (rd (els (dif a b)) (t : Int)) = false → v' = ((a : Int), (b : Int), rd (els (dif a b)) (t : Int), true)) →
          Ev (fun k => impl_FirstFailure.l2 k (b : Int) l (l.length : Int) (i : Int) l (l.length : Int) (j : Int) (els (dif a b)) ((els (dif a b)).length : Int) (t : Int) (n : Int) l (a : Int)) v' := by
        intro v' h1 h2
        refine Ev.succ ?_
        simp only [impl_FirstFailure.l2]
        refine Ev.pos (by omega) (Ev.pos (by omega) (Ev.pos (by omega) ?_))
        rw [bits_andNot hb ha]
        refine Ev.bind (impl_ElementsOf.is (dif_lt hb)) ?_
        rw [hany]
        simp only [Option.bind_some]
        by_cases h : anyEx l a b (rd (els (dif a b)) (t : Int)) = true
        · refine Ev.pos h ?_
          rw [wnext (by omega)]
          exact h1 h
        · exact Ev.neg h (Ev.of (by rw [h2 (by simpa using h)]))
      by_cases h : anyEx l a b (rd (els (dif a b)) (t : Int)) = true
      · exact ⟨v, body v (fun _ => hv) (fun h' => absurd h (by simp [h'])), by rw [hf]; simp [anyN, h]⟩
      · exact ⟨_, body _ (fun h' => absurd h' h) (fun _ => rfl), by simp [anyN, h]⟩
  have k1 : ∀ (i a : Nat), i < l.length → rd l (i : Int) = (a : Int) → a < 256 → ∀ B, Flag (fun k => impl_FirstFailure.l0 k l (l.length : Int) ((i + 1 : Nat) : Int) (n : Int) l) B → ∀ d j : Nat, j + d = l.length →
      Flag (fun k => impl_FirstFailure.l1 k l (l.length : Int) (i : Int) l (l.length : Int) (j : Int) (n : Int) l (a : Int)) (anyN (fun j => anyN (fun t => !anyEx l a (rd l (j : Int)).toNat (rd (els (dif a (rd l (j : Int)).toNat)) (t : Int))) 0 (els (dif a (rd l (j : Int)).toNat)).length) j d || B) := by
    intro i a hi ea ha B hB d
    induction d with
    | zero =>
      intro j hj
      obtain ⟨v, hv, hf⟩ := hB
      refine ⟨v, Ev.succ ?_, by simp [anyN, hf]⟩
      simp only [impl_FirstFailure.l1]
      refine Ev.neg (by omega) ?_
      rw [wnext (by omega)]; exact hv
    | succ d ih =>
      intro j hj
      have hb := hr _ (rd_mem (l := l) (i := j) (by omega))
      have eb : rd l (j : Int) = ((rd l (j : Int)).toNat : Int) := by omega
      obtain ⟨v, hv, hf⟩ := k2 i j a (rd l (j : Int)).toNat hi (by omega) ea eb ha (by omega) _ (ih (j + 1) (by omega)) (els (dif a (rd l (j : Int)).toNat)).length 0 (by omega)
      refine ⟨v, Ev.succ ?_, by rw [hf]; simp [anyN, Bool.or_assoc]⟩
      simp only [impl_FirstFailure.l1]
      refine Ev.pos (by omega) (Ev.pos (by omega) (Ev.pos (by omega) ?_))
      have e1 : Go.bits .andNot .i64 (a : Int) (rd l (j : Int)) = ((dif a (rd l (j : Int)).toNat : Nat) : Int) := by
        have := bits_andNot (a := a) (b := (rd l (j : Int)).toNat) ha (by omega)
        rwa [← eb] at this
      rw [e1]
      refine Ev.bind (impl_ElementsOf.is (dif_lt ha)) ?_
      rw [← eb] at hv
      exact hv
  have k0 : ∀ d i : Nat, i + d = l.length → Flag (fun k => impl_FirstFailure.l0 k l (l.length : Int) (i : Int) (n : Int) l) (anyN (fun i => anyN (fun j => anyN (fun t => !anyEx l (rd l (i : Int)).toNat (rd l (j : Int)).toNat (rd (els (dif (rd l (i : Int)).toNat (rd l (j : Int)).toNat)) (t : Int))) 0 (els (dif (rd l (i : Int)).toNat (rd l (j : Int)).toNat)).length) 0 l.length) i d) := by
    intro d
    induction d with
    | zero =>
      intro i hi
      refine ⟨(0, 0, 0, false), Ev.succ ?_, rfl⟩
      simp only [impl_FirstFailure.l0]
      exact Ev.neg (by omega) (Ev.of rfl)
    | succ d ih =>
      intro i hi
      have hb := hr _ (rd_mem (l := l) (i := i) (by omega))
      have eb : rd l (i : Int) = ((rd l (i : Int)).toNat : Int) := by omega
      obtain ⟨v, hv, hf⟩ := k1 i (rd l (i : Int)).toNat (by omega) eb (by omega) _ (ih (i + 1) (by omega)) l.length 0 (by omega)
      refine ⟨v, Ev.succ ?_, by rw [hf]; simp [anyN]⟩
      simp only [impl_FirstFailure.l0]
      refine Ev.pos (by omega) (Ev.pos (by omega) (Ev.pos (by omega) ?_))
      rw [← eb] at hv
      exact hv
  exact k0 l.length 0 (by omega)
theorem bit_lt {a e n : Nat} (ha : a < 2 ^ n) (h : a.testBit e = true) : e < n := by
  apply Nat.lt_of_not_le
  intro hle
  rw [Nat.testBit_lt_two_pow (Nat.lt_of_lt_of_le ha (Nat.pow_le_pow_right (by decide) hle))] at h
  exact Bool.false_ne_true h
theorem anyEx_eq {l : List Int} {a b e n : Nat} (ha : a < 256) (hb : b < 256) (hn : n ≤ 8) (hbn : b < 2 ^ n) (he : e < 8) (h : a.testBit e = true) : anyEx l a b (e : Int) = exB n l a b e := by
  rw [Bool.eq_iff_iff]
  unfold anyEx exB
  rw [List.any_eq_true, anyN_iff]
  constructor
  · rintro ⟨x, hx, hh⟩
    obtain ⟨f, hf, hbit, rfl⟩ := mem_els.1 hx
    rw [dif_bit hf] at hbit
    simp only [Bool.and_eq_true, Bool.not_eq_true'] at hbit
    rw [xch_impl ha he hf h hbit.2] at hh
    refine ⟨f, by omega, ?_, by rw [has_nat, has_nat]; simp [hbit, hh]⟩
    have := bit_lt hbn hbit.1
    omega
  · rintro ⟨f, _, hf, hh⟩
    rw [has_nat, has_nat] at hh
    simp only [Bool.and_eq_true, Bool.not_eq_true'] at hh
    refine ⟨(f : Int), mem_els.2 ⟨f, by omega, by rw [dif_bit (by omega)]; simp [hh], rfl⟩, ?_⟩
    rw [xch_impl ha he (by omega) h hh.1.2]; exact hh.2
theorem badB_eq {l : List Int} {a b n : Nat} (ha : a < 256) (hb : b < 256) (hn : n ≤ 8) (han : a < 2 ^ n) (hbn : b < 2 ^ n) :
    anyN (fun t => !anyEx l a b (rd (els (dif a b)) (t : Int))) 0 (els (dif a b)).length = badB n l a b := by
  rw [Bool.eq_iff_iff]
  unfold badB
  rw [anyN_iff, anyN_iff]
  constructor
  · rintro ⟨t, _, ht, hh⟩
    obtain ⟨e, he, hbit, hre⟩ := mem_els.1 (rd_mem (l := els (dif a b)) (i := t) (by omega))
    rw [dif_bit he] at hbit
    simp only [Bool.and_eq_true, Bool.not_eq_true'] at hbit
    rw [hre, anyEx_eq ha hb hn hbn he hbit.1] at hh
    have := bit_lt han hbit.1
    refine ⟨e, by omega, by omega, ?_⟩
    unfold badE
    rw [has_nat, has_nat]
    simp [hbit]; simpa using hh
  · rintro ⟨e, _, he, hh⟩
    unfold badE at hh
    rw [has_nat, has_nat] at hh
    simp only [Bool.and_eq_true, Bool.not_eq_true'] at hh
    have hm : ((e : Int)) ∈ els (dif a b) := mem_els.2 ⟨e, by omega, by rw [dif_bit (by omega)]; simp [hh], rfl⟩
    obtain ⟨t, ht, hte⟩ := List.mem_iff_getElem.1 hm
    refine ⟨t, by omega, by omega, ?_⟩
    rw [rd_nat ht, hte, anyEx_eq ha hb hn hbn (by omega) hh.1.1]
    simp [hh.2]
theorem full_nat {n : Nat} : full (n : Int) = ((2 ^ n : Nat) : Int) - 1 := by
  unfold full
  rw [show ((n : Int)).toNat = n by omega]; simp
theorem bad_eq {n : Nat} (hn : n ≤ 8) {l : List Int} (hr : ∀ x ∈ l, 0 ≤ x ∧ x ≤ full n) :
    anyN (fun i => anyN (fun j => anyN (fun t => !anyEx l (rd l (i : Int)).toNat (rd l (j : Int)).toNat (rd (els (dif (rd l (i : Int)).toNat (rd l (j : Int)).toNat)) (t : Int))) 0 (els (dif (rd l (i : Int)).toNat (rd l (j : Int)).toNat)).length) 0 l.length) 0 l.length = bad n l := by
  have hp : (2 : Nat) ^ n ≤ 256 := Nat.pow_le_pow_right (n := 2) (by decide) hn
  have hx : ∀ i : Nat, i < l.length → (rd l (i : Int)).toNat < 2 ^ n ∧ ((rd l (i : Int)).toNat : Int) = rd l (i : Int) := fun i hi => by
    have h1 := hr _ (rd_mem hi)
    rw [full_nat] at h1
    omega
  unfold bad
  refine anyN_congr (fun i _ hi => ?_)
  have hi2 := hx i (by omega)
  unfold badA
  refine anyN_congr (fun j _ hj => ?_)
  have hj2 := hx j (by omega)
  rw [badB_eq (n := n) (by omega) (by omega) hn hi2.1 hj2.1, hi2.2, hj2.2]
theorem impl_IsMatroid.is (n : Int) (l : List Int) (hl : l.length ≤ maxLen) : Ev (fun k => impl_IsMatroid.f k n l) (matr n l) := by
  have hfam := impl_IsFamily.is n l hl
  unfold impl_IsMatroid.f
  by_cases h : fam n l = true
  · obtain ⟨hn, _⟩ := fam_iff.1 h
    have hn2 : ((n.toNat : Nat) : Int) = n := by omega
    obtain ⟨v, hv, hf⟩ := impl_FirstFailure.flag n.toNat l hl (fam_lt h)
    rw [bad_eq (n := n.toNat) (by omega) (by rw [hn2]; exact fam_mem h)] at hf
    rw [hn2] at hv
    have h1 : Ev (fun k => impl_FirstFailure.f k n l) v := by
      unfold impl_FirstFailure.f
      exact Ev.bind hfam (Ev.pos h hv)
    refine Ev.bind h1 (Ev.bind hfam (Ev.pos h ?_))
    by_cases h0 : (l.length : Int) > 0
    · exact Ev.pos h0 (Ev.of (by have : 0 < l.length := by omega
                                 simp [matr, h, this, hf]))
    · exact Ev.neg h0 (Ev.of (by have : ¬ 0 < l.length := by omega
                                 simp only [matr, this]; simp))
  · have h1 : Ev (fun k => impl_FirstFailure.f k n l) (0, 0, 0, false) := by
      unfold impl_FirstFailure.f
      exact Ev.bind hfam (Ev.neg h (Ev.of rfl))
    exact Ev.bind h1 (Ev.bind hfam (Ev.neg h (Ev.of (by simp [matr, h]))))
def isFld (p : Int) : Bool := p == 2 || (p == 3 || (p == 5 || p == 7))
theorem isFld_iff {p : Int} : isFld p = true ↔ p = 2 ∨ p = 3 ∨ p = 5 ∨ p = 7 := by simp [isFld]
theorem spec_l12Prime.is (p : Int) : spec_l12Prime.f p = some (isFld p) := by
  unfold spec_l12Prime.f isFld
  by_cases h2 : p = 2
  · rw [if_pos h2]; simp [h2]
  · rw [if_neg h2]
    by_cases h3 : p = 3
    · rw [if_pos h3]; simp [h3]
    · rw [if_neg h3]
      by_cases h5 : p = 5
      · rw [if_pos h5]; simp [h5]
      · rw [if_neg h5, beq_eq_false_iff_ne.2 h2, beq_eq_false_iff_ne.2 h3, beq_eq_false_iff_ne.2 h5]; simp
theorem impl_isField.is (p : Int) : impl_isField.f p = some (isFld p) := by
  rw [← spec_l12Prime.is]; rfl
def cellsOk (p : Int) (c : List Int) (i : Nat) : Bool := decide (0 ≤ rd c i) && decide (rd c i < p)
def isMat (p r n : Int) (c : List Int) : Bool := isFld p && (isSize r && (isSize n && (decide ((c.length : Int) = r * n) && allN (cellsOk p c) 0 c.length)))
theorem spec_IsMatrix.loop (p r n : Int) (c : List Int) (hp : 0 < p ∧ p < 100) (hl : c.length ≤ maxLen) : ∀ d i, i + d = c.length → Ev (fun k => spec_IsMatrix.l0 k (i : Int) p r n c) (allN (cellsOk p c) i d) := by
  have hm := maxLen_eq
  intro d
  induction d with
  | zero =>
    intro i hi
    refine Ev.succ ?_
    simp only [spec_IsMatrix.l0]
    exact Ev.neg (by omega) (Ev.of rfl)
  | succ d ih =>
    intro i hi
    refine Ev.succ ?_
    simp only [spec_IsMatrix.l0]
    refine Ev.pos (by omega) (Ev.pos (by omega) ?_)
    rw [spec_l1In.is, w64 (n := p - 1) (by omega) (by omega)]
    simp only [Option.bind_some]
    have e : (decide (0 ≤ rd c i) && decide (rd c i ≤ p - 1)) = cellsOk p c i := by
      unfold cellsOk; congr 1; exact decide_eq_decide.2 (by omega)
    rw [e]
    by_cases h : cellsOk p c i = true
    · refine Ev.pos h ?_
      rw [wnext (by omega)]
      have := ih (i + 1) (by omega)
      rwa [show allN (cellsOk p c) i (d + 1) = allN (cellsOk p c) (i + 1) d by simp [allN, h]]
    · exact Ev.neg h (Ev.of (by simp [allN, h]))
theorem spec_IsMatrix.is (p r n : Int) (c : List Int) (hl : c.length ≤ maxLen) : Ev (fun k => spec_IsMatrix.f k p r n c) (isMat p r n c) := by
  have hm := maxLen_eq
  have hno : Ev (fun k => spec_IsMatrix.j0 k true p r n c) false := Ev.succ (Ev.of (by simp [spec_IsMatrix.j0]))
  unfold spec_IsMatrix.f
  rw [spec_l12Prime.is]
  simp only [Option.bind_some]
  by_cases h1 : isFld p = true
  · refine Ev.pos h1 ?_
    rw [spec_l1In.is]
    simp only [Option.bind_some]
    by_cases h2 : isSize r = true
    · refine Ev.pos h2 ?_
      rw [spec_l1In.is]
      simp only [Option.bind_some]
      by_cases h3 : isSize n = true
      · refine Ev.pos h3 ?_
        have b2 := isSize_iff.1 h2
        have b3 := isSize_iff.1 h3
        have b4 : 0 ≤ r * n ∧ r * n ≤ 64 := by
          have := Int.mul_nonneg b2.1 b3.1
          have h5 := Int.mul_le_mul b2.2 b3.2 b3.1 (by decide : (0 : Int) ≤ 8)
          omega
        rw [w64 (n := r * n) (by omega) (by omega)]
        by_cases h4 : (c.length : Int) = r * n
        · have e : ((c.length : Int) != r * n) = false := by simp [h4]
          rw [e]
          refine Ev.succ ?_
          simp only [spec_IsMatrix.j0]
          have hp := isFld_iff.1 h1
          have h := spec_IsMatrix.loop p r n c (by omega) hl c.length 0 (by omega)
          refine Ev.neg (by decide) ?_
          rw [show isMat p r n c = allN (cellsOk p c) 0 c.length by simp [isMat, h1, h2, h3, h4]]
          exact h
        · have e : ((c.length : Int) != r * n) = true := by simp [h4]
          rw [e, show isMat p r n c = false by simp [isMat, h4]]
          exact hno
      · refine Ev.neg h3 ?_
        rw [show isMat p r n c = false by simp [isMat, h3]]
        exact hno
    · refine Ev.neg h2 ?_
      rw [show isMat p r n c = false by simp [isMat, h2]]
      exact hno
  · refine Ev.neg h1 ?_
    rw [show isMat p r n c = false by simp [isMat, h1]]
    exact hno
theorem impl_IsMatrix.loop (p r n : Int) (c : List Int) (hl : c.length ≤ maxLen) : ∀ d i, i + d = c.length → Ev (fun k => impl_IsMatrix.l0 k c (c.length : Int) (i : Int) p r n c) (allN (cellsOk p c) i d) := by
  have hm := maxLen_eq
  intro d
  induction d with
  | zero =>
    intro i hi
    refine Ev.succ ?_
    simp only [impl_IsMatrix.l0]
    exact Ev.neg (by omega) (Ev.of rfl)
  | succ d ih =>
    intro i hi
    refine Ev.succ ?_
    simp only [impl_IsMatrix.l0]
    refine Ev.pos (by omega) (Ev.pos (by omega) (Ev.pos (by omega) ?_))
    by_cases h0 : rd c i < 0
    · refine Ev.pos h0 (Ev.of ?_)
      have : ¬ 0 ≤ rd c i := by omega
      simp [allN, cellsOk, this]
    · refine Ev.neg h0 ?_
      by_cases h1 : rd c i ≥ p
      · refine Ev.pos h1 (Ev.of ?_)
        have : ¬ rd c i < p := by omega
        simp [allN, cellsOk, this]
      · refine Ev.neg h1 ?_
        rw [wnext (by omega)]
        have h : cellsOk p c i = true := by
          have a : 0 ≤ rd c i := by omega
          have b : rd c i < p := by omega
          simp [cellsOk, a, b]
        have := ih (i + 1) (by omega)
        rwa [show allN (cellsOk p c) i (d + 1) = allN (cellsOk p c) (i + 1) d by simp [allN, h]]
theorem impl_IsMatrix.is (p r n : Int) (c : List Int) (hl : c.length ≤ maxLen) : Ev (fun k => impl_IsMatrix.f k p r n c) (isMat p r n c) := by
  have hm := maxLen_eq
  have hno : Ev (fun k => impl_IsMatrix.j0 k true p r n c) false := Ev.succ (Ev.of (by simp [impl_IsMatrix.j0]))
  unfold impl_IsMatrix.f
  rw [impl_isField.is]
  simp only [Option.bind_some]
  by_cases h1 : isFld p = true
  · refine Ev.pos h1 ?_
    rw [impl_isSize.is]
    simp only [Option.bind_some]
    by_cases h2 : isSize r = true
    · refine Ev.pos h2 ?_
      rw [impl_isSize.is]
      simp only [Option.bind_some]
      by_cases h3 : isSize n = true
      · refine Ev.pos h3 ?_
        have b2 := isSize_iff.1 h2
        have b3 := isSize_iff.1 h3
        have b4 : 0 ≤ r * n ∧ r * n ≤ 64 := by
          have := Int.mul_nonneg b2.1 b3.1
          have h5 := Int.mul_le_mul b2.2 b3.2 b3.1 (by decide : (0 : Int) ≤ 8)
          omega
        rw [w64 (n := r * n) (by omega) (by omega)]
        by_cases h4 : (c.length : Int) = r * n
        · have e : ((c.length : Int) != r * n) = false := by simp [h4]
          rw [e]
          refine Ev.succ ?_
          simp only [impl_IsMatrix.j0]
          have h := impl_IsMatrix.loop p r n c hl c.length 0 (by omega)
          refine Ev.neg (by decide) ?_
          rw [show isMat p r n c = allN (cellsOk p c) 0 c.length by simp [isMat, h1, h2, h3, h4]]
          exact h
        · have e : ((c.length : Int) != r * n) = true := by simp [h4]
          rw [e, show isMat p r n c = false by simp [isMat, h4]]
          exact hno
      · refine Ev.neg h3 ?_
        rw [show isMat p r n c = false by simp [isMat, h3]]
        exact hno
    · refine Ev.neg h2 ?_
      rw [show isMat p r n c = false by simp [isMat, h2]]
      exact hno
  · refine Ev.neg h1 ?_
    rw [show isMat p r n c = false by simp [isMat, h1]]
    exact hno
theorem rd_ext {a b : List Int} (hl : a.length = b.length) (h : ∀ i : Nat, i < a.length → rd a (i : Int) = rd b (i : Int)) : a = b := by
  refine List.ext_getElem hl (fun i h1 h2 => ?_)
  have := h i h1
  rwa [rd_nat h1, rd_nat h2] at this
theorem eqB {a b : List Int} (hl : a.length = b.length) : allN (fun i => decide (rd a (i : Int) = rd b (i : Int))) 0 a.length = decide (a = b) := by
  rw [Bool.eq_iff_iff, allN_iff, decide_eq_true_iff]
  constructor
  · intro h; exact rd_ext hl (fun i hi => by simpa using h i (by omega) (by omega))
  · intro h j _ _; subst h; simp
theorem spec_EqualMatroid.is (n m : Int) (a b : List Int) (ha : a.length ≤ maxLen) : Ev (fun k => spec_EqualMatroid.f k n a m b) (decide (n = m) && decide (a = b)) := by
  have hm := maxLen_eq
  unfold spec_EqualMatroid.f
  have hno : Ev (fun k => spec_EqualMatroid.j0 k true n a m b) false := Ev.succ (Ev.of (by simp [spec_EqualMatroid.j0]))
  by_cases h1 : n = m
  · refine Ev.pos h1 ?_
    by_cases h2 : a.length = b.length
    · have e : ((a.length : Int) != (b.length : Int)) = false := by simp [h2]
      rw [e]
      have key : ∀ d i, i + d = a.length → Ev (fun k => spec_EqualMatroid.l0 k (i : Int) n a m b) (allN (fun i => decide (rd a (i : Int) = rd b (i : Int))) i d) := by
        intro d
        induction d with
        | zero =>
          intro i hi
          refine Ev.succ ?_
          simp only [spec_EqualMatroid.l0]
          exact Ev.neg (by omega) (Ev.of rfl)
        | succ d ih =>
          intro i hi
          refine Ev.succ ?_
          simp only [spec_EqualMatroid.l0]
          refine Ev.pos (by omega) (Ev.pos (by omega) (Ev.pos (by omega) ?_))
          by_cases h : rd a (i : Int) = rd b (i : Int)
          · refine Ev.pos h ?_
            rw [wnext (by omega)]
            have := ih (i + 1) (by omega)
            rwa [show allN (fun i => decide (rd a (i : Int) = rd b (i : Int))) i (d + 1) = allN (fun i => decide (rd a (i : Int) = rd b (i : Int))) (i + 1) d by simp [allN, h]]
          · exact Ev.neg h (Ev.of (by simp [allN, h]))
      refine Ev.succ ?_
      simp only [spec_EqualMatroid.j0]
      refine Ev.neg (by decide) ?_
      have h := key a.length 0 (by omega)
      rw [eqB h2] at h
      rw [show (decide (n = m) && decide (a = b)) = decide (a = b) by simp [h1]]
      exact h
    · have e : ((a.length : Int) != (b.length : Int)) = true := by simp; omega
      rw [e, show (decide (n = m) && decide (a = b)) = false by
        have : a ≠ b := fun h => h2 (by rw [h])
        simp [this]]
      exact hno
  · refine Ev.neg h1 ?_
    rw [show (decide (n = m) && decide (a = b)) = false by simp [h1]]
    exact hno
theorem impl_EqualMatroid.is (n m : Int) (a b : List Int) (ha : a.length ≤ maxLen) : Ev (fun k => impl_EqualMatroid.f k n a m b) (decide (n = m) && decide (a = b)) := by
  have hm := maxLen_eq
  unfold impl_EqualMatroid.f
  by_cases h1 : n = m
  · refine Ev.pos h1 ?_
    rw [show (decide (n = m) && decide (a = b)) = decide (a = b) by simp [h1]]
    refine Ev.bind (v := decide (a = b)) ?_ Ev.pure
    unfold slices_Equal_int_int.f
    by_cases h2 : a.length = b.length
    · refine Ev.pos (by omega) ?_
      have key : ∀ d i, i + d = a.length → Ev (fun k => slices_Equal_int_int.l0 k a b (a.length : Int) (i : Int)) (allN (fun i => decide (rd a (i : Int) = rd b (i : Int))) i d) := by
        intro d
        induction d with
        | zero =>
          intro i hi
          refine Ev.succ ?_
          simp only [slices_Equal_int_int.l0]
          exact Ev.neg (by omega) (Ev.of rfl)
        | succ d ih =>
          intro i hi
          refine Ev.succ ?_
          simp only [slices_Equal_int_int.l0]
          refine Ev.pos (by omega) (Ev.pos (by omega) (Ev.pos (by omega) (Ev.pos (by omega) ?_)))
          by_cases h : rd a (i : Int) = rd b (i : Int)
          · refine Ev.pos h ?_
            rw [wnext (by omega)]
            have := ih (i + 1) (by omega)
            rwa [show allN (fun i => decide (rd a (i : Int) = rd b (i : Int))) i (d + 1) = allN (fun i => decide (rd a (i : Int) = rd b (i : Int))) (i + 1) d by simp [allN, h]]
          · exact Ev.neg h (Ev.of (by simp [allN, h]))
      have h := key a.length 0 (by omega)
      rw [eqB h2] at h
      exact h
    · refine Ev.neg (by omega) ?_
      rw [show decide (a = b) = false by
        have : a ≠ b := fun h => h2 (by rw [h])
        simp [this]]
      exact Ev.pure
  · refine Ev.neg h1 ?_
    rw [show (decide (n = m) && decide (a = b)) = false by simp [h1]]
    exact Ev.pure
end Go.Proofs.Ytbhckhblonkajaa.Q
