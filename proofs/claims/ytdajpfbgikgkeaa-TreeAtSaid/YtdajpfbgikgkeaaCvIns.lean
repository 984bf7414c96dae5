/-
  My own library for walks, a text of it (CvIns): separation logic over the kit's Calls; no statement of this seat stands here.
-/
import Derived.Test.YtdajpfbgikgkeaaCvFn
set_option linter.unusedVariables false
set_option linter.unusedSimpArgs false
set_option linter.unusedSectionVars false
namespace Cv
open Go
/-! ## sorting in place, stably: what is kept -/
section
variable {α : Type} [Inhabited α]
/-- ys has as many elements as xs, and none but those of xs -/
structure SM (xs ys : List α) : Prop where
  len : ys.length = xs.length
  sub : ∀ y ∈ ys, y ∈ xs
  perm : ys.Perm xs
theorem SM.refl (xs : List α) : SM xs xs := ⟨rfl, fun _ h => h, .refl _⟩
theorem SM.trans {xs ys zs : List α} (h : SM xs ys) (k : SM ys zs) : SM xs zs := ⟨k.1.trans h.1, fun z hz => h.2 z (k.2 z hz), k.3.trans h.3⟩
/-- two places are changed with each other -/
def sw (zs : List α) (i j : Nat) : List α := (zs.set i (gd zs j)).set j (gd zs i)
theorem gd_mem {zs : List α} {i : Nat} (h : i < zs.length) : gd zs i ∈ zs := List.mem_of_getElem? (gd_get h)
theorem sw_perm {zs : List α} {i j : Nat} (hi : i < zs.length) (hj : j < zs.length) : (sw zs i j).Perm zs := by
  have h := Array.swap_perm (xs := zs.toArray) (i := i) (j := j) (by simpa using hi) (by simpa using hj)
  have h2 := Array.perm_iff_toList_perm.1 h
  have e1 : gd zs i = zs[i] := by unfold gd; simp [hi]
  have e2 : gd zs j = zs[j] := by unfold gd; simp [hj]
  rw [sw, e1, e2]
  simpa [Array.swap] using h2
theorem sw_sm {zs : List α} {i j : Nat} (hi : i < zs.length) (hj : j < zs.length) : SM zs (sw zs i j) := ⟨by simp [sw], fun y hy => by
  rcases List.mem_or_eq_of_mem_set hy with h | h
  · rcases List.mem_or_eq_of_mem_set h with h | h
    · exact h
    · subst h; exact gd_mem hj
  · subst h; exact gd_mem hi, sw_perm hi hj⟩
theorem gd_sw {zs : List α} {i j k : Nat} (hi : i < zs.length) (hj : j < zs.length) : gd (sw zs i j) k = if k = j then gd zs i else if k = i then gd zs j else gd zs k := by
  unfold sw gd
  simp only [List.getD_eq_getElem?_getD, List.getElem?_set, List.length_set]
  by_cases h1 : k = j
  · subst h1; simp [hj]
  · rw [if_neg h1, if_neg (fun e => h1 e.symm)]
    by_cases h2 : k = i
    · subst h2; simp [hi]
    · rw [if_neg h2, if_neg (fun e => h2 e.symm)]
/-- by cf, none comes ahead of the one before it -/
def Srt (cf : α → α → Int) (xs : List α) : Prop := ∀ p q, p < q → q < xs.length → ¬ cf (gd xs q) (gd xs p) < 0
/-- an order of texts -/
structure Cmp (cf : α → α → Int) : Prop where
  anti : ∀ x y, cf y x = - cf x y
  trans : ∀ x y z, cf x y ≤ 0 → cf y z ≤ 0 → cf x z ≤ 0 ∧ (cf x z = 0 → cf x y = 0 ∧ cf y z = 0)
def Rt (cf : α → α → Int) (tag : α → Nat) (x y : α) : Prop := cf x y < 0 ∨ (cf x y = 0 ∧ tag x < tag y)
theorem Rt.trans {cf : α → α → Int} {tag : α → Nat} (h : Cmp cf) {x y z : α} (a : Rt cf tag x y) (b : Rt cf tag y z) : Rt cf tag x z := by
  have t := h.trans x y z (by rcases a with a | a <;> omega) (by rcases b with b | b <;> omega)
  unfold Rt at *
  by_cases e : cf x z = 0
  · have := t.2 e; right; omega
  · left; omega
def Pw (R : α → α → Prop) (zs : List α) (n : Nat) : Prop := ∀ p q, p < q → q < n → R (gd zs p) (gd zs q)
def PwBut (R : α → α → Prop) (zs : List α) (i j : Nat) : Prop := (∀ p q, p < q → q ≤ i → p ≠ j → q ≠ j → R (gd zs p) (gd zs q)) ∧ ∀ q, j < q → q ≤ i → R (gd zs j) (gd zs q)
/-- the state of an insertion sort from 0 on: i elements are in order; the rest is as it was -/
structure InsO (cf : α → α → Int) (xs zs : List α) (i : Nat) : Prop where
  sm : SM xs zs
  same : Srt cf xs → zs = xs
  ord : ∀ tag : α → Nat, (∀ p q, p < q → q < xs.length → tag (gd xs p) < tag (gd xs q)) → Pw (Rt cf tag) zs i ∧ (∀ p q, p < q → q < zs.length → (i ≤ p ∨ (p < i ∧ i ≤ q)) → tag (gd zs p) < tag (gd zs q))
structure InsJ (cf : α → α → Int) (xs zs : List α) (i j : Nat) : Prop where
  sm : SM xs zs
  same : Srt cf xs → zs = xs ∧ j = i
  ord : ∀ tag : α → Nat, (∀ p q, p < q → q < xs.length → tag (gd xs p) < tag (gd xs q)) → PwBut (Rt cf tag) zs i j ∧ (∀ p, p ≤ i → p ≠ j → tag (gd zs p) < tag (gd zs j)) ∧ (∀ p q, p < q → q < zs.length → (i < p ∨ (p ≤ i ∧ i < q)) → tag (gd zs p) < tag (gd zs q))
theorem InsO.zero {cf : α → α → Int} (xs : List α) : InsO cf xs xs 1 := ⟨.refl _, fun _ => rfl, fun tag h => ⟨fun p q h1 h2 => by omega, fun p q h1 h2 _ => h p q h1 h2⟩⟩
theorem InsO.start {cf : α → α → Int} {xs zs : List α} {i : Nat} (h : InsO cf xs zs i) (hi : i < zs.length) : InsJ cf xs zs i i := ⟨h.sm, fun q => ⟨h.same q, rfl⟩, fun tag ht => by
  obtain ⟨h1, h2⟩ := h.ord tag ht
  exact ⟨⟨fun p q a b c d => h1 p q a (by omega), fun q a b => by omega⟩, fun p a b => h2 p i (by omega) hi (.inr ⟨by omega, Nat.le_refl _⟩), fun p q a b c => h2 p q a b (by omega)⟩⟩
theorem InsJ.swap {cf : α → α → Int} {xs zs : List α} {i j : Nat} (h : InsJ cf xs zs i j) (hi : i < zs.length) (hj : j ≤ i) (h0 : 0 < j) (hl : cf (gd zs j) (gd zs (j - 1)) < 0) : InsJ cf xs (sw zs j (j - 1)) i (j - 1) := by
  refine ⟨h.sm.trans (sw_sm (by omega) (by omega)), fun q => ?_, fun tag ht => ?_⟩
  · obtain ⟨e, rfl⟩ := h.same q
    subst e
    exact absurd hl (q (j - 1) j (by omega) (by omega))
  · obtain ⟨⟨h1, h2⟩, h3, h4⟩ := h.ord tag ht
    have g : ∀ k, gd (sw zs j (j - 1)) k = if k = j - 1 then gd zs j else if k = j then gd zs (j - 1) else gd zs k := fun k => gd_sw (by omega) (by omega)
    have len : (sw zs j (j - 1)).length = zs.length := by simp [sw]
    refine ⟨⟨fun p q a b c d => ?_, fun q a b => ?_⟩, fun p a b => ?_, fun p q a b c => ?_⟩
    · rw [g p, g q, if_neg c, if_neg d]
      by_cases e1 : p = j
      · rw [if_pos e1, if_neg (by omega)]; exact h1 _ _ (by omega) b (by omega) (by omega)
      · rw [if_neg e1]
        by_cases e2 : q = j
        · rw [if_pos e2]; exact h1 _ _ (by omega) (by omega) e1 (by omega)
        · rw [if_neg e2]; exact h1 _ _ a b e1 e2
    · rw [g (j - 1), g q, if_pos rfl, if_neg (by omega)]
      by_cases e2 : q = j
      · rw [if_pos e2]; exact .inl hl
      · rw [if_neg e2]; exact h2 _ (by omega) b
    · rw [g p, g (j - 1), if_pos rfl, if_neg b]
      by_cases e1 : p = j
      · rw [if_pos e1]; exact h3 _ (by omega) (by omega)
      · rw [if_neg e1]; exact h3 _ a e1
    · rw [len] at b
      rw [g p, g q]
      by_cases e0 : i < p
      · rw [if_neg (by omega), if_neg (by omega), if_neg (by omega), if_neg (by omega)]; exact h4 _ _ a b (.inl e0)
      · have hq : i < q := by omega
        rw [if_neg (show ¬ q = j - 1 by omega), if_neg (show ¬ q = j by omega)]
        split
        · exact h4 _ _ (by omega) b (.inr ⟨by omega, hq⟩)
        · split
          · exact h4 _ _ (by omega) b (.inr ⟨by omega, hq⟩)
          · exact h4 _ _ a b (.inr ⟨by omega, hq⟩)
theorem InsJ.stop {cf : α → α → Int} {xs zs : List α} {i j : Nat} (hC : Cmp cf) (h : InsJ cf xs zs i j) (hj : j ≤ i) (hi : i < zs.length) (hl : 0 < j → ¬ cf (gd zs j) (gd zs (j - 1)) < 0) : InsO cf xs zs (i + 1) := by
  refine ⟨h.sm, fun q => (h.same q).1, fun tag ht => ?_⟩
  obtain ⟨⟨h1, h2⟩, h3, h4⟩ := h.ord tag ht
  refine ⟨fun p q a b => ?_, fun p q a b c => h4 p q a b (by omega)⟩
  have before : ∀ p, p < j → Rt cf tag (gd zs p) (gd zs j) := by
    intro p hp
    have last : Rt cf tag (gd zs (j - 1)) (gd zs j) := by
      have e1 := hl (by omega)
      have e2 := hC.anti (gd zs (j - 1)) (gd zs j)
      have e3 := h3 (j - 1) (by omega) (by omega)
      unfold Rt
      by_cases e : cf (gd zs (j - 1)) (gd zs j) = 0
      · right; exact ⟨e, e3⟩
      · left; omega
    by_cases e : p = j - 1
    · subst e; exact last
    · exact (h1 p (j - 1) (by omega) (by omega) (by omega) (by omega)).trans hC last
  by_cases e1 : p = j
  · subst e1; exact h2 q a (by omega)
  · by_cases e2 : q = j
    · subst e2; exact before p a
    · exact h1 p q a (by omega) e1 e2
/-- what a sort keeps -/
structure Kp (cf : α → α → Int) (xs ys : List α) : Prop where
  sm : SM xs ys
  same : Srt cf xs → ys = xs
theorem Kp.refl {cf : α → α → Int} (xs : List α) : Kp cf xs xs := ⟨.refl _, fun _ => rfl⟩
theorem Kp.trans {cf : α → α → Int} {xs ys zs : List α} (h : Kp cf xs ys) (k : Kp cf ys zs) : Kp cf xs zs := ⟨h.sm.trans k.sm, fun q => by
  have e := h.same q
  subst e
  exact k.same q⟩
theorem Kp.of {cf : α → α → Int} {xs ys : List α} (h : SM xs ys) (hn : ¬ Srt cf xs) : Kp cf xs ys := ⟨h, fun q => absurd q hn⟩
/-- an insertion sort of a part -/
structure InsP (cf : α → α → Int) (xs zs : List α) (i j : Nat) : Prop where
  sm : SM xs zs
  same : Srt cf xs → zs = xs ∧ j = i
theorem InsP.zero {cf : α → α → Int} {xs zs : List α} {i : Nat} (h : Kp cf xs zs) : InsP cf xs zs i i := ⟨h.sm, fun q => ⟨h.same q, rfl⟩⟩
theorem InsP.swap {cf : α → α → Int} {xs zs : List α} {i j : Nat} (h : InsP cf xs zs i j) (hi : j < zs.length) (h0 : 0 < j) (hl : cf (gd zs j) (gd zs (j - 1)) < 0) : InsP cf xs (sw zs j (j - 1)) i (j - 1) := ⟨h.sm.trans (sw_sm (by omega) (by omega)), fun q => by
  obtain ⟨e, rfl⟩ := h.same q
  subst e
  exact absurd hl (q (j - 1) j (by omega) (by omega))⟩
theorem InsP.end' {cf : α → α → Int} {xs zs : List α} {i j : Nat} (h : InsP cf xs zs i j) : Kp cf xs zs := ⟨h.sm, fun q => (h.same q).1⟩
end
end Cv
