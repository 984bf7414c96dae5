/-
  The walks: the item by names.
-/
import Derived.Test.YtdajpfbgikgkeaaV05
import Derived.Test.YtdajpfbgikgkeaaN05
import Derived.Test.YtdajpfbgikgkeaaProg
import Derived.KernelRfl
set_option maxRecDepth 10000
set_option linter.unusedSimpArgs false
set_option linter.unusedVariables false
namespace Cv
open Go Go.Proofs
/-! ## the item by names -/
@[reducible] def sr (s : List UInt8) : List Value := [S s]
def gsr (_ : List UInt8) : Prop := True
theorem el_str {H : Type} {enc : TypeId × Value → H} {P : Program} {W : World} {base : Nat} {sp : Nat → Bool} {held : Bool} {n : Nat} {t : TypeId} {cs : List Value} {y : DataW H × List MemPlace} (ht : P.underlying t = some .string) (h : DataW.trod enc P W base sp held n t cs = some y) : ∃ z, cs = sr z ∧ gsr z := by
  obtain ⟨s, e1, -, hs⟩ := DataW.trod_string ht h
  exact ⟨s.data.toList, by rw [e1]; simp [S], trivial⟩
def fiT (ks : List Tr) (s : List UInt8) : Option Tr := ks.find? (fun y => decide (y.n = s))
def atT : Tr → List (List UInt8) → Option Tr
  | x, [] => some x
  | x, s :: ss => match fiT x.ks s with | none => none | some y => atT y ss
theorem fiT_at {ks : List Tr} {k : Nat} {y : Tr} {s : List UInt8} (hall : ∀ z ∈ ks.take k, z.n ≠ s) (hy : ks[k]? = some y) (h : y.n = s) : fiT ks s = some y := by
  have hk := (List.getElem?_eq_some_iff.1 hy).1
  have ed : ks.drop k = y :: ks.drop (k + 1) := by rw [List.drop_eq_getElem_cons hk]; congr 1; exact (List.getElem?_eq_some_iff.1 hy).2
  unfold fiT
  rw [← List.take_append_drop k ks, List.find?_append, List.find?_eq_none.2 (fun z hz => by have := hall z hz; simpa using this), ed]
  simp [h]
theorem fiT_none {ks : List Tr} {s : List UInt8} (hall : ∀ z ∈ ks, z.n ≠ s) : fiT ks s = none := List.find?_eq_none.2 (fun z hz => by have := hall z hz; simpa using this)
theorem take_no {ks : List Tr} {k : Nat} {y : Tr} {s : List UInt8} (hall : ∀ z ∈ ks.take k, z.n ≠ s) (hy : ks[k]? = some y) (h : y.n ≠ s) : ∀ z ∈ ks.take (k + 1), z.n ≠ s := fun z hz => by
  rw [← take_snoc hy] at hz
  rcases List.mem_append.1 hz with q | q
  · exact hall z q
  · simp only [List.mem_singleton] at q; subst q; exact h
def AtR (x : Tr) (ss : List (List UInt8)) (z : Tr) (e : Int) : Prop := (atT x ss = some z ∧ e = 0) ∨ (atT x ss = none ∧ e = 7 ∧ z.k = 0)
theorem at_step {z : Tr} {ss : List (List UInt8)} {i : Nat} {s : List UInt8} (hs : ss[i]? = some s) : atT z (ss.drop i) = match fiT z.ks s with | none => none | some y => atT y (ss.drop (i + 1)) := by
  have hi := (List.getElem?_eq_some_iff.1 hs).1
  have ed : ss.drop i = s :: ss.drop (i + 1) := by rw [List.drop_eq_getElem_cons hi]; congr 1; exact (List.getElem?_eq_some_iff.1 hs).2
  rw [ed, atT]
theorem at_some {x z y : Tr} {ss : List (List UInt8)} {i : Nat} {s : List UInt8} (h : atT x ss = atT z (ss.drop i)) (hs : ss[i]? = some s) (hf : fiT z.ks s = some y) : atT x ss = atT y (ss.drop (i + 1)) := by rw [h, at_step hs, hf]
theorem at_none {x z : Tr} {ss : List (List UInt8)} {i : Nat} {s : List UInt8} (h : atT x ss = atT z (ss.drop i)) (hs : ss[i]? = some s) (hf : fiT z.ks s = none) : AtR x ss (.mk [] 0 [] []) 7 := .inr ⟨by rw [h, at_step hs, hf], rfl, rfl⟩
theorem at_end {x z : Tr} {ss : List (List UInt8)} {i : Nat} (h : atT x ss = atT z (ss.drop i)) (hi : ss.length ≤ i) : AtR x ss z 0 := .inl ⟨by rw [h, List.drop_of_length_le hi, atT], rfl⟩
/-! ### in a tree that may be each name is one item's -/
theorem bless_trans {a b c : List UInt8} (h : bless a b = true) (k : bless b c = true) : bless a c = true := bless_iff.2 (cmpB_trans (bless_iff.1 h) (bless_iff.1 k))
theorem bless_ne {a b : List UInt8} (h : bless a b = true) : a ≠ b := fun e => by subst e; have := bless_iff.1 h; rw [cmpB_self] at this; omega
theorem chkL_ord : ∀ (ks : List Tr) (d : Nat) (p : Option (List UInt8)) (n : Nat), (chkL ks d p n).2 = 0 → (∀ y ∈ ks, (chkT y d).2 = 0) ∧ (∀ q, p = some q → ∀ y ∈ ks, bless q y.n = true) ∧ ks.Pairwise (fun a b => bless a.n b.n = true)
  | [], d, p, n, h => ⟨(fun y hy => by cases hy), (fun q _ y hy => by cases hy), List.Pairwise.nil⟩
  | y :: ys, d, p, n, h => by
    rw [chkL] at h
    split at h
    · simp at h
    · rename_i h1
      split at h
      · rename_i h2; exact absurd h h2
      · rename_i h2
        obtain ⟨k1, k2, k3⟩ := chkL_ord ys d (some y.n) _ h
        have hp : ∀ q, p = some q → bless q y.n = true := fun q hq => by
          cases hb : bless q y.n with
          | true => rfl
          | false => exact absurd (.inr ⟨q, hq, hb⟩) h1
        refine ⟨fun z hz => ?_, fun q hq z hz => ?_, List.Pairwise.cons (fun z hz => k2 _ rfl z hz) k3⟩
        · rcases List.mem_cons.1 hz with rfl | hz
          · simpa using h2
          · exact k1 z hz
        · rcases List.mem_cons.1 hz with rfl | hz
          · exact hp q hq
          · exact bless_trans (hp q hq) (k2 _ rfl z hz)
theorem chkT_ord {x : Tr} {d : Nat} (h : (chkT x d).2 = 0) : (∀ y ∈ x.ks, (chkT y (d + 1)).2 = 0) ∧ x.ks.Pairwise (fun a b => bless a.n b.n = true) := by
  rw [chkT_eq] at h
  split at h
  · rename_i h1; exact absurd h h1
  · obtain ⟨k1, _, k3⟩ := chkL_ord _ _ _ _ h
    exact ⟨k1, k3⟩
theorem chkE_T {x : Tr} (h : chkE x = 0) : (chkT x 1).2 = 0 := by
  unfold chkE at h
  split at h
  · simp at h
  · exact h
theorem fiT_own {ks : List Tr} (hp : ks.Pairwise (fun a b => bless a.n b.n = true)) {i : Nat} {y : Tr} (hy : ks[i]? = some y) : fiT ks y.n = some y := by
  have hi := (List.getElem?_eq_some_iff.1 hy).1
  refine fiT_at (k := i) (fun z hz => ?_) hy rfl
  obtain ⟨j, hj, rfl⟩ := List.getElem_of_mem hz
  have hji : j < i := by have := hj; rw [List.length_take] at this; omega
  rw [List.getElem_take]
  have := List.pairwise_iff_getElem.1 hp j i (by omega) hi hji
  rw [← (List.getElem?_eq_some_iff.1 hy).2]
  exact bless_ne this
theorem atT_one {x : Tr} (h : chkE x = 0) {i : Nat} {y : Tr} (hy : x.ks[i]? = some y) : atT x [y.n] = some y := by
  rw [atT, fiT_own (chkT_ord (chkE_T h)).2 hy]
  show atT y [] = some y
  rw [atT]
theorem atT_two {x : Tr} (h : chkE x = 0) {i j : Nat} {y w : Tr} (hy : x.ks[i]? = some y) (hw : y.ks[j]? = some w) : atT x [y.n, w.n] = some w := by
  rw [atT, fiT_own (chkT_ord (chkE_T h)).2 hy]
  show atT y [w.n] = some w
  rw [atT, fiT_own (chkT_ord ((chkT_ord (chkE_T h)).1 y (kid_mem hy))).2 hw]
  show atT w [] = some w
  rw [atT]
theorem AtR.get {x z y : Tr} {ss : List (List UInt8)} {e : Int} (h : AtR x ss z e) (k : atT x ss = some y) : y = z ∧ e = 0 := by
  rcases h with ⟨h1, h2⟩ | ⟨h1, _⟩
  · rw [k] at h1; cases h1; exact ⟨rfl, h2⟩
  · rw [k] at h1; cases h1
theorem at3 {x z : Tr} {ss : List (List UInt8)} {e : Int} (h : AtR x ss z e) : (ss.length = 0 ∧ z = x ∧ e = 0) ∨ (e = 0 ∧ 0 < ss.length) ∨ (e = 7 ∧ 0 < ss.length ∧ z.k = 0) := by
  cases ss with
  | nil =>
    rcases h with ⟨h1, h2⟩ | ⟨h1, h2, h3⟩
    · rw [atT] at h1; cases h1; exact .inl ⟨rfl, rfl, h2⟩
    · rw [atT] at h1; cases h1
  | cons s ss =>
    rcases h with ⟨h1, h2⟩ | ⟨h1, h2, h3⟩
    · exact .inr (.inl ⟨h2, by simp⟩)
    · exact .inr (.inr ⟨h2, by simp, h3⟩)


end Cv
