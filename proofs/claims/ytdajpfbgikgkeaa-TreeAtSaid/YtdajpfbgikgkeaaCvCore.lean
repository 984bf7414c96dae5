/-
  My own library for walks, a text of it (CvCore): separation logic over the kit's Calls; no statement of this seat stands here.
-/
import Derived.WalkKit
set_option linter.unusedVariables false
set_option linter.unusedSimpArgs false
set_option linter.unusedSectionVars false
namespace Cv
open Go

/-! ## heaplets and assertions -/
abbrev Hp := Nat → Option Obj
def Hp.le (h k : Hp) : Prop := ∀ b o, h b = some o → k b = some o
def Hp.disj (h k : Hp) : Prop := ∀ b, h b = none ∨ k b = none
def hp (w : World) : Hp := fun b => w.heap[b]?
abbrev Asn := Hp → Prop

theorem Hp.le.refl (h : Hp) : Hp.le h h := fun _ _ e => e
theorem Hp.le.trans {a b c : Hp} (h : Hp.le a b) (k : Hp.le b c) : Hp.le a c := fun x o e => k x o (h x o e)
theorem Hp.disj.symm {a b : Hp} (h : Hp.disj a b) : Hp.disj b a := fun x => (h x).symm
theorem Hp.disj.le {a b c : Hp} (h : Hp.disj a b) (k : Hp.le c b) : Hp.disj a c := fun x => by
  rcases h x with e | e
  · exact .inl e
  · right
    cases hc : c x with
    | none => rfl
    | some o => rw [k x o hc] at e; cases e
theorem Hp.disj.le2 {a b c : Hp} (h : Hp.disj a b) (k : Hp.le c a) : Hp.disj c b := (h.symm.le k).symm

def Hp.union (a b : Hp) : Hp := fun x => match a x with | some o => some o | none => b x
theorem Hp.le_union_left (a b : Hp) : Hp.le a (Hp.union a b) := fun x o e => by simp [Hp.union, e]
theorem Hp.le_union_right {a b : Hp} (d : Hp.disj a b) : Hp.le b (Hp.union a b) := fun x o e => by
  rcases d x with h | h
  · simp [Hp.union, h, e]
  · rw [h] at e; cases e
theorem Hp.union_le {a b c : Hp} (h : Hp.le a c) (k : Hp.le b c) : Hp.le (Hp.union a b) c := fun x o e => by
  unfold Hp.union at e
  cases ha : a x with
  | some u => rw [ha] at e; cases e; exact h x _ ha
  | none => rw [ha] at e; exact k x _ e
theorem Hp.disj_union {a b c : Hp} (h : Hp.disj a c) (k : Hp.disj b c) : Hp.disj (Hp.union a b) c := fun x => by
  rcases h x with e | e
  · rcases k x with f | f
    · left; simp [Hp.union, e, f]
    · exact .inr f
  · exact .inr e

def Holds : List Asn → Hp → Prop
  | [], _ => True
  | A :: M, h => ∃ h1 h2, Hp.le h1 h ∧ Hp.le h2 h ∧ Hp.disj h1 h2 ∧ A h1 ∧ Holds M h2

theorem Holds.mono : ∀ {M : List Asn} {h k : Hp}, Holds M h → Hp.le h k → Holds M k
  | [], _, _, _, _ => trivial
  | _ :: _, _, _, ⟨h1, h2, l1, l2, d, ha, hm⟩, hk => ⟨h1, h2, l1.trans hk, l2.trans hk, d, ha, hm⟩

theorem Holds.append : ∀ {M N : List Asn} {h : Hp}, Holds (M ++ N) h ↔ ∃ h1 h2, Hp.le h1 h ∧ Hp.le h2 h ∧ Hp.disj h1 h2 ∧ Holds M h1 ∧ Holds N h2
  | [], N, h => ⟨fun H => ⟨fun _ => none, h, (fun _ _ e => by cases e), Hp.le.refl h, fun _ => .inl rfl, trivial, H⟩, fun ⟨_, _, _, l2, _, _, H⟩ => H.mono l2⟩
  | A :: M, N, h => by
    constructor
    · rintro ⟨h1, h2, l1, l2, d, ha, hm⟩
      obtain ⟨k1, k2, m1, m2, d', hM, hN⟩ := Holds.append.1 hm
      refine ⟨Hp.union h1 k1, k2, Hp.union_le l1 (m1.trans l2), m2.trans l2, Hp.disj_union (d.le m2) d', ⟨h1, k1, Hp.le_union_left _ _, Hp.le_union_right (d.le m1), d.le m1, ha, hM⟩, hN⟩
    · rintro ⟨h1, h2, l1, l2, d, ⟨k1, k2, m1, m2, d', ha, hM⟩, hN⟩
      refine ⟨k1, Hp.union k2 h2, m1.trans l1, Hp.union_le (m2.trans l1) l2, ?_, ha, Holds.append.2 ⟨k2, h2, Hp.le_union_left _ _, Hp.le_union_right (d.le2 m2), d.le2 m2, hM, hN⟩⟩
      exact (Hp.disj_union d'.symm (d.symm.le m1)).symm

def Ent (M N : List Asn) : Prop := ∀ h, Holds M h → Holds N h
theorem Ent.refl (M : List Asn) : Ent M M := fun _ h => h
theorem Ent.trans {M N O : List Asn} (a : Ent M N) (b : Ent N O) : Ent M O := fun h H => b h (a h H)
theorem Ent.cons {M N : List Asn} (A : Asn) (a : Ent M N) : Ent (A :: M) (A :: N) := fun _ ⟨h1, h2, l1, l2, d, ha, hm⟩ => ⟨h1, h2, l1, l2, d, ha, a _ hm⟩
theorem Ent.skip {M N : List Asn} {A : Asn} (a : Ent M N) : Ent (A :: M) N := fun _ ⟨_, _, _, l2, _, _, hm⟩ => (a _ hm).mono l2
theorem Ent.swap (A B : Asn) (M : List Asn) : Ent (A :: B :: M) (B :: A :: M) := by
  rintro h ⟨h1, h2, l1, l2, d, ha, ⟨k1, k2, m1, m2, d', hb, hm⟩⟩
  refine ⟨k1, Hp.union h1 k2, m1.trans l2, Hp.union_le l1 (m2.trans l2), ?_, hb, ⟨h1, k2, Hp.le_union_left _ _, Hp.le_union_right (d.le m2), d.le m2, ha, hm⟩⟩
  exact (Hp.disj_union (d.le m1) d'.symm).symm
theorem Ent.append {M M' N N' : List Asn} (a : Ent M M') (b : Ent N N') : Ent (M ++ N) (M' ++ N') := fun _ H => by
  obtain ⟨h1, h2, l1, l2, d, hm, hn⟩ := Holds.append.1 H
  exact Holds.append.2 ⟨h1, h2, l1, l2, d, a _ hm, b _ hn⟩
theorem Ent.comm (M N : List Asn) : Ent (M ++ N) (N ++ M) := fun _ H => by
  obtain ⟨h1, h2, l1, l2, d, hm, hn⟩ := Holds.append.1 H
  exact Holds.append.2 ⟨h2, h1, l2, l1, d.symm, hn, hm⟩

/-- `Pull A M N`: A can be taken out of M, N is left -/
def Pull (A : Asn) (M N : List Asn) : Prop := Ent M (A :: N)
theorem Pull.here {A : Asn} {M : List Asn} : Pull A (A :: M) M := .refl _
theorem Pull.there {A B : Asn} {M N : List Asn} (h : Pull A M N) : Pull A (B :: M) (B :: N) := (Ent.cons B h).trans (Ent.swap _ _ _)
/-- `Sel L M N`: L can be taken out of M, N is left -/
def Sel (L M N : List Asn) : Prop := Ent M (L ++ N)
theorem Sel.nil {M : List Asn} : Sel [] M M := .refl _
theorem Sel.cons {A : Asn} {L M N O : List Asn} (h : Pull A M N) (k : Sel L N O) : Sel (A :: L) M O := Ent.trans h (Ent.cons A k)
/-- `Upd A B M N`: N is M with B in A's place -/
def Upd (A B : Asn) (M N : List Asn) : Prop := ∃ O, Ent M (A :: O) ∧ Ent (B :: O) N
theorem Upd.here {A B : Asn} {M : List Asn} : Upd A B (A :: M) (B :: M) := ⟨M, .refl _, .refl _⟩
theorem Upd.there {A B C : Asn} {M N : List Asn} (h : Upd A B M N) : Upd A B (C :: M) (C :: N) := by
  obtain ⟨O, h1, h2⟩ := h
  exact ⟨C :: O, Pull.there h1, (Ent.swap _ _ _).trans (Ent.cons C h2)⟩

theorem Holds.mem : ∀ {M : List Asn} {A : Asn} {h : Hp}, Holds M h → A ∈ M → ∃ k, Hp.le k h ∧ A k
  | _ :: _, _, _, ⟨h1, _, l1, _, _, ha, _⟩, .head _ => ⟨h1, l1, ha⟩
  | _ :: _, _, _, ⟨_, _, _, l2, _, _, hm⟩, .tail _ hA => let ⟨k, l, hk⟩ := hm.mem hA; ⟨k, l.trans l2, hk⟩

theorem mem_head {A : Asn} {M : List Asn} : A ∈ A :: M := .head _
theorem mem_tail {A B : Asn} {M : List Asn} (h : A ∈ M) : A ∈ B :: M := .tail _ h
theorem Fit.cons {A : Asn} {L M N : List Asn} (h : Pull A M N) (k : Ent N L) : Ent M (A :: L) := Ent.trans h (Ent.cons A k)
/-! ## what a world satisfies -/
def Facts (D : List Asn) (z : Hp) : Prop := ∀ φ ∈ D, ∃ y, Hp.le y z ∧ φ y

structure Sat (σ : World) (D M : List Asn) (w : World) : Prop where
  os : w.os = σ.os ∧ σ.drawn ≤ w.drawn
  tape : w.tape = σ.tape
  output : w.output = σ.output
  heap : ∃ z h, Hp.le z (hp w) ∧ Hp.le h (hp w) ∧ Hp.disj z h ∧ Facts D z ∧ Holds M h

def pt (b : Nat) (o : Obj) : Asn := fun h => h b = some o

theorem Sat.ent {σ w : World} {D M N : List Asn} (h : Sat σ D M w) (e : Ent M N) : Sat σ D N w := by
  obtain ⟨z, k, a, b, c, d, f⟩ := h.heap
  exact ⟨h.os, h.tape, h.output, z, k, a, b, c, d, e _ f⟩

def SubD (X D : List Asn) : Prop := ∀ φ ∈ X, φ ∈ D
theorem SubD.refl (D : List Asn) : SubD D D := fun _ h => h
theorem SubD.nil (D : List Asn) : SubD [] D := fun _ h => (by cases h)
theorem SubD.cons {A : Asn} {X D : List Asn} (h : A ∈ D) (k : SubD X D) : SubD (A :: X) D := fun _ hφ => by
  cases hφ with
  | head => exact h
  | tail _ h' => exact k _ h'
theorem SubD.skip {A : Asn} {X D : List Asn} (k : SubD X D) : SubD X (A :: D) := fun φ hφ => .tail _ (k _ hφ)
theorem SubD.append {X Y D : List Asn} (h : SubD X D) (k : SubD Y D) : SubD (X ++ Y) D := fun φ hφ => by
  rcases List.mem_append.1 hφ with a | a
  · exact h _ a
  · exact k _ a

theorem Sat.facts {σ w : World} {D X M : List Asn} (h : Sat σ D M w) (e : SubD X D) : Sat σ X M w := by
  obtain ⟨z, k, a, b, c, d, f⟩ := h.heap
  exact ⟨h.os, h.tape, h.output, z, k, a, b, c, fun φ hφ => d φ (e φ hφ), f⟩

/-- a fact about what is read -/
theorem Sat.fact {σ w : World} {D M : List Asn} {φ : Asn} (h : Sat σ D M w) (e : φ ∈ D) : ∃ y, Hp.le y (hp w) ∧ φ y := by
  obtain ⟨z, k, a, b, c, d, f⟩ := h.heap
  obtain ⟨y, hy, hφ⟩ := d φ e
  exact ⟨y, hy.trans a, hφ⟩
theorem Sat.own {σ w : World} {D M : List Asn} {A : Asn} (h : Sat σ D M w) (e : A ∈ M) : ∃ y, Hp.le y (hp w) ∧ A y := by
  obtain ⟨z, k, a, b, c, d, f⟩ := h.heap
  obtain ⟨y, hy, hA⟩ := f.mem e
  exact ⟨y, hy.trans b, hA⟩
theorem Sat.block {σ w : World} {D M : List Asn} {b : Nat} {o : Obj} (h : Sat σ D M w) (e : pt b o ∈ M) : w.heap[b]? = some o := by
  obtain ⟨y, l, hy⟩ := h.own e
  exact l _ _ hy
theorem Sat.blockD {σ w : World} {D M : List Asn} {b : Nat} {o : Obj} (h : Sat σ D M w) (e : pt b o ∈ D) : w.heap[b]? = some o := by
  obtain ⟨y, l, hy⟩ := h.fact e
  exact l _ _ hy

theorem Sat.derive {σ w : World} {D M : List Asn} {φ ψ : Asn} (h : Sat σ D M w) (e : φ ∈ D) (i : ∀ z, φ z → ψ z) : Sat σ (ψ :: D) M w := by
  obtain ⟨z, k, a, b, c, d, f⟩ := h.heap
  refine ⟨h.os, h.tape, h.output, z, k, a, b, c, fun χ hχ => ?_, f⟩
  cases hχ with
  | head => obtain ⟨y, hy, hφ⟩ := d φ e; exact ⟨y, hy, i _ hφ⟩
  | tail _ h' => exact d χ h'

/-- what is owned may be made a fact: it is never changed any more -/
theorem Sat.freeze {σ w : World} {D M : List Asn} {A : Asn} (h : Sat σ D (A :: M) w) : Sat σ (A :: D) M w := by
  obtain ⟨z, k, a, b, c, d, ⟨h1, h2, l1, l2, d', hA, hM⟩⟩ := h.heap
  have dz : Hp.disj z h1 := c.le l1
  refine ⟨h.os, h.tape, h.output, Hp.union z h1, h2, Hp.union_le a (l1.trans b), l2.trans b, Hp.disj_union (c.le l2) d', fun χ hχ => ?_, hM⟩
  cases hχ with
  | head => exact ⟨h1, Hp.le_union_right dz, hA⟩
  | tail _ h' => obtain ⟨y, hy, hφ⟩ := d χ h'; exact ⟨y, hy.trans (Hp.le_union_left _ _), hφ⟩

theorem hp_alloc (w : World) (o : Obj) : hp (w.alloc o) = fun b => if b = w.heap.size then some o else hp w b := by
  funext b
  simp only [hp, World.alloc, Array.getElem?_push]
theorem Sat.alloc {σ w : World} {D M : List Asn} (h : Sat σ D M w) (o : Obj) : Sat σ D (pt w.heap.size o :: M) (w.alloc o) := by
  obtain ⟨z, k, a, b, c, d, f⟩ := h.heap
  have hn : hp w w.heap.size = none := by simp [hp]
  have zn : z w.heap.size = none := by
    cases e : z w.heap.size with
    | none => rfl
    | some u => rw [a _ _ e] at hn; cases hn
  have kn : k w.heap.size = none := by
    cases e : k w.heap.size with
    | none => rfl
    | some u => rw [b _ _ e] at hn; cases hn
  have up : Hp.le (hp w) (hp (w.alloc o)) := fun x u e => by
    rw [hp_alloc]
    by_cases hx : x = w.heap.size
    · subst hx; rw [hn] at e; cases e
    · simp [hx, e]
  let one : Hp := fun x => if x = w.heap.size then some o else none
  have d1 : Hp.disj one k := fun x => by
    by_cases hx : x = w.heap.size
    · right; subst hx; exact kn
    · left; simp [one, hx]
  have d2 : Hp.disj z one := fun x => by
    by_cases hx : x = w.heap.size
    · left; subst hx; exact zn
    · right; simp [one, hx]
  refine ⟨h.os, h.tape, h.output, z, Hp.union one k, a.trans up, Hp.union_le ?_ (b.trans up), (Hp.disj_union d2.symm c.symm).symm, d, one, k, Hp.le_union_left _ _, Hp.le_union_right d1, d1, by simp [pt, one], f⟩
  intro x u e
  rw [hp_alloc]
  by_cases hx : x = w.heap.size
  · simp [one, hx] at e; simp [hx, e]
  · simp [one, hx] at e

/-- the world with another object in a block -/
def setB (w : World) (b : Nat) (o : Obj) : World := { w with heap := w.heap.setIfInBounds b o }
theorem hp_setB (w : World) (b : Nat) (o : Obj) (hb : b < w.heap.size) : hp (setB w b o) = fun x => if x = b then some o else hp w x := by
  funext x
  simp only [hp, setB, Array.getElem?_setIfInBounds]
  by_cases h : b = x
  · subst h; simp [hb]
  · simp [h, Ne.symm h]
theorem Sat.setB {σ w : World} {D M N : List Asn} {b : Nat} {o o' : Obj} (h : Sat σ D M w) (u : Upd (pt b o) (pt b o') M N) : Sat σ D N (setB w b o') := by
  obtain ⟨O, e1, e2⟩ := u
  have h' := h.ent e1
  obtain ⟨z, k, a, c, dj, d, ⟨h1, h2, l1, l2, d', hA, hM⟩⟩ := h'.heap
  have hb : b < w.heap.size := by
    have := c _ _ (l1 _ _ hA)
    exact (Array.getElem?_eq_some_iff.1 this).1
  have zb : z b = none := by
    rcases dj b with e | e
    · exact e
    · rw [l1 _ _ hA] at e; cases e
  have h2b : h2 b = none := by
    rcases d' b with e | e
    · rw [show h1 b = some o from hA] at e; cases e
    · exact e
  let one : Hp := fun x => if x = b then some o' else none
  have keep : ∀ {g : Hp}, Hp.le g (hp w) → g b = none → Hp.le g (hp (Cv.setB w b o')) := by
    intro g lg gb x u e
    rw [hp_setB _ _ _ hb]
    by_cases hx : x = b
    · subst hx; rw [gb] at e; cases e
    · simp [hx, lg _ _ e]
  have d1 : Hp.disj one h2 := fun x => by
    by_cases hx : x = b
    · right; subst hx; exact h2b
    · left; simp [one, hx]
  have d2 : Hp.disj z one := fun x => by
    by_cases hx : x = b
    · left; subst hx; exact zb
    · right; simp [one, hx]
  refine Sat.ent ⟨h.os, h.tape, h.output, z, Hp.union one h2, keep a zb, Hp.union_le ?_ (keep (l2.trans c) h2b), (Hp.disj_union d2.symm (dj.le l2).symm).symm, d, (show Holds (pt b o' :: O) (Hp.union one h2) from ⟨one, h2, Hp.le_union_left _ _, Hp.le_union_right d1, d1, by simp [pt, one], hM⟩)⟩ e2
  intro x u e
  rw [hp_setB _ _ _ hb]
  by_cases hx : x = b
  · simp [one, hx] at e; simp [hx, e]
  · simp [one, hx] at e

theorem Sat.drew {σ w : World} {D M : List Asn} (h : Sat σ D M w) (n : Nat) (hn : w.drawn ≤ n := by first | exact Nat.le_succ _ | exact Nat.le_refl _ | omega | exact Nat.le_add_right _ _ | (simp; done)) : Sat σ D M { w with drawn := n } := ⟨⟨h.os.1, Nat.le_trans h.os.2 hn⟩, h.tape, h.output, h.heap⟩

/-! ## folding and unfolding -/
/-- an assertion that is a list of others -/
def all (L : List Asn) : Asn := fun h => Holds L h
theorem Ent.unfold {L M : List Asn} : Ent (all L :: M) (L ++ M) := fun _ ⟨h1, h2, l1, l2, d, ha, hm⟩ => Holds.append.2 ⟨h1, h2, l1, l2, d, ha, hm⟩
theorem Ent.fold {L M : List Asn} : Ent (L ++ M) (all L :: M) := fun _ H => by
  obtain ⟨h1, h2, l1, l2, d, hm, hn⟩ := Holds.append.1 H
  exact ⟨h1, h2, l1, l2, d, hm, hn⟩
theorem Ent.imp {A B : Asn} {M : List Asn} (i : ∀ h, A h → B h) : Ent (A :: M) (B :: M) := fun _ ⟨h1, h2, l1, l2, d, ha, hm⟩ => ⟨h1, h2, l1, l2, d, i _ ha, hm⟩
theorem Sat.ex {σ w : World} {D M : List Asn} {α : Sort _} {A : α → Asn} (h : Sat σ D ((fun k => ∃ x, A x k) :: M) w) : ∃ x, Sat σ D (A x :: M) w := by
  obtain ⟨z, k, a, b, c, d, ⟨h1, h2, l1, l2, d', ⟨x, hA⟩, hM⟩⟩ := h.heap
  exact ⟨x, h.os, h.tape, h.output, z, k, a, b, c, d, h1, h2, l1, l2, d', hA, hM⟩
theorem Sat.pure {σ w : World} {D M : List Asn} {A : Asn} {p : Prop} (h : Sat σ D (A :: M) w) (i : ∀ k, A k → p) : p := by
  obtain ⟨y, _, hy⟩ := h.own (.head _)
  exact i _ hy
end Cv
