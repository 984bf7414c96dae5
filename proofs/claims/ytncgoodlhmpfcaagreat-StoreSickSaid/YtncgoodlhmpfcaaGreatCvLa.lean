/-
  My own library for walks (CvCore CvBase CvWalk CvOps CvMem CvDraw CvArith): separation logic over the calls of the kit; no statement of this seat stands here.
-/
import Derived.WalkKit
import Derived.RangeFuncLeaves
import Derived.RangeFuncRecord
import Derived.RangeFuncSeq
import Derived.TacticsIn
import Derived.OrdersIn
import Derived.Sort.LoopGhostIn
import Derived.Deep.QuietTactic
import Derived.Deep.RegionHeld3
import Derived.Scope
import Derived.KernelRfl
import Derived.OrdersHeld
set_option linter.all false
namespace Cv
open Go

/-! ## heaplets and assertions -/
abbrev Hp := Nat → Option Obj
def Hp.le (h k : Hp) : Prop := ∀ b o, h b = some o → k b = some o
def Hp.disj (h k : Hp) : Prop := ∀ b, h b = none ∨ k b = none
def hp (w : World) : Hp := fun b => w.heap[b]?
abbrev Asn := Hp → Prop

theorem Hp.le.refl (h : Hp) : Hp.le h h := fun _ _ e => e
theorem Hp.le.trans {a b c : Hp} (h : Hp.le a b) (k : Hp.le b c) : Hp.le a c := fun x o e => k x o (h x o e)
theorem Hp.disj.symm {a b : Hp} (h : Hp.disj a b) : Hp.disj b a := fun x => (h x).symm
theorem Hp.disj.le {a b c : Hp} (h : Hp.disj a b) (k : Hp.le c b) : Hp.disj a c := fun x => by
  rcases h x with e | e
  · exact .inl e
  · right
    cases hc : c x with
    | none => rfl
    | some o => rw [k x o hc] at e; cases e
theorem Hp.disj.le2 {a b c : Hp} (h : Hp.disj a b) (k : Hp.le c a) : Hp.disj c b := (h.symm.le k).symm

def Hp.union (a b : Hp) : Hp := fun x => match a x with | some o => some o | none => b x
theorem Hp.le_union_left (a b : Hp) : Hp.le a (Hp.union a b) := fun x o e => by simp [Hp.union, e]
theorem Hp.le_union_right {a b : Hp} (d : Hp.disj a b) : Hp.le b (Hp.union a b) := fun x o e => by
  rcases d x with h | h
  · simp [Hp.union, h, e]
  · rw [h] at e; cases e
theorem Hp.union_le {a b c : Hp} (h : Hp.le a c) (k : Hp.le b c) : Hp.le (Hp.union a b) c := fun x o e => by
  unfold Hp.union at e
  cases ha : a x with
  | some u => rw [ha] at e; cases e; exact h x _ ha
  | none => rw [ha] at e; exact k x _ e
theorem Hp.disj_union {a b c : Hp} (h : Hp.disj a c) (k : Hp.disj b c) : Hp.disj (Hp.union a b) c := fun x => by
  rcases h x with e | e
  · rcases k x with f | f
    · left; simp [Hp.union, e, f]
    · exact .inr f
  · exact .inr e

def Holds : List Asn → Hp → Prop
  | [], _ => True
  | A :: M, h => ∃ h1 h2, Hp.le h1 h ∧ Hp.le h2 h ∧ Hp.disj h1 h2 ∧ A h1 ∧ Holds M h2

theorem Holds.mono : ∀ {M : List Asn} {h k : Hp}, Holds M h → Hp.le h k → Holds M k
  | [], _, _, _, _ => trivial
  | _ :: _, _, _, ⟨h1, h2, l1, l2, d, ha, hm⟩, hk => ⟨h1, h2, l1.trans hk, l2.trans hk, d, ha, hm⟩

theorem Holds.append : ∀ {M N : List Asn} {h : Hp}, Holds (M ++ N) h ↔ ∃ h1 h2, Hp.le h1 h ∧ Hp.le h2 h ∧ Hp.disj h1 h2 ∧ Holds M h1 ∧ Holds N h2
  | [], N, h => ⟨fun H => ⟨fun _ => none, h, (fun _ _ e => by cases e), Hp.le.refl h, fun _ => .inl rfl, trivial, H⟩, fun ⟨_, _, _, l2, _, _, H⟩ => H.mono l2⟩
  | A :: M, N, h => by
    constructor
    · rintro ⟨h1, h2, l1, l2, d, ha, hm⟩
      obtain ⟨k1, k2, m1, m2, d', hM, hN⟩ := Holds.append.1 hm
      refine ⟨Hp.union h1 k1, k2, Hp.union_le l1 (m1.trans l2), m2.trans l2, Hp.disj_union (d.le m2) d', ⟨h1, k1, Hp.le_union_left _ _, Hp.le_union_right (d.le m1), d.le m1, ha, hM⟩, hN⟩
    · rintro ⟨h1, h2, l1, l2, d, ⟨k1, k2, m1, m2, d', ha, hM⟩, hN⟩
      refine ⟨k1, Hp.union k2 h2, m1.trans l1, Hp.union_le (m2.trans l1) l2, ?_, ha, Holds.append.2 ⟨k2, h2, Hp.le_union_left _ _, Hp.le_union_right (d.le2 m2), d.le2 m2, hM, hN⟩⟩
      exact (Hp.disj_union d'.symm (d.symm.le m1)).symm

def Ent (M N : List Asn) : Prop := ∀ h, Holds M h → Holds N h
theorem Ent.refl (M : List Asn) : Ent M M := fun _ h => h
theorem Ent.trans {M N O : List Asn} (a : Ent M N) (b : Ent N O) : Ent M O := fun h H => b h (a h H)
theorem Ent.cons {M N : List Asn} (A : Asn) (a : Ent M N) : Ent (A :: M) (A :: N) := fun _ ⟨h1, h2, l1, l2, d, ha, hm⟩ => ⟨h1, h2, l1, l2, d, ha, a _ hm⟩
theorem Ent.skip {M N : List Asn} {A : Asn} (a : Ent M N) : Ent (A :: M) N := fun _ ⟨_, _, _, l2, _, _, hm⟩ => (a _ hm).mono l2
theorem Ent.swap (A B : Asn) (M : List Asn) : Ent (A :: B :: M) (B :: A :: M) := by
  rintro h ⟨h1, h2, l1, l2, d, ha, ⟨k1, k2, m1, m2, d', hb, hm⟩⟩
  refine ⟨k1, Hp.union h1 k2, m1.trans l2, Hp.union_le l1 (m2.trans l2), ?_, hb, ⟨h1, k2, Hp.le_union_left _ _, Hp.le_union_right (d.le m2), d.le m2, ha, hm⟩⟩
  exact (Hp.disj_union (d.le m1) d'.symm).symm
theorem Ent.append {M M' N N' : List Asn} (a : Ent M M') (b : Ent N N') : Ent (M ++ N) (M' ++ N') := fun _ H => by
  obtain ⟨h1, h2, l1, l2, d, hm, hn⟩ := Holds.append.1 H
  exact Holds.append.2 ⟨h1, h2, l1, l2, d, a _ hm, b _ hn⟩
def Pull (A : Asn) (M N : List Asn) : Prop := Ent M (A :: N)
theorem Pull.here {A : Asn} {M : List Asn} : Pull A (A :: M) M := .refl _
theorem Pull.there {A B : Asn} {M N : List Asn} (h : Pull A M N) : Pull A (B :: M) (B :: N) := (Ent.cons B h).trans (Ent.swap _ _ _)
def Sel (L M N : List Asn) : Prop := Ent M (L ++ N)
theorem Sel.nil {M : List Asn} : Sel [] M M := .refl _
theorem Sel.cons {A : Asn} {L M N O : List Asn} (h : Pull A M N) (k : Sel L N O) : Sel (A :: L) M O := Ent.trans h (Ent.cons A k)
def Upd (A B : Asn) (M N : List Asn) : Prop := ∃ O, Ent M (A :: O) ∧ Ent (B :: O) N
theorem Upd.here {A B : Asn} {M : List Asn} : Upd A B (A :: M) (B :: M) := ⟨M, .refl _, .refl _⟩
theorem Upd.there {A B C : Asn} {M N : List Asn} (h : Upd A B M N) : Upd A B (C :: M) (C :: N) := by
  obtain ⟨O, h1, h2⟩ := h
  exact ⟨C :: O, Pull.there h1, (Ent.swap _ _ _).trans (Ent.cons C h2)⟩

theorem Holds.mem : ∀ {M : List Asn} {A : Asn} {h : Hp}, Holds M h → A ∈ M → ∃ k, Hp.le k h ∧ A k
  | _ :: _, _, _, ⟨h1, _, l1, _, _, ha, _⟩, .head _ => ⟨h1, l1, ha⟩
  | _ :: _, _, _, ⟨_, _, _, l2, _, _, hm⟩, .tail _ hA => let ⟨k, l, hk⟩ := hm.mem hA; ⟨k, l.trans l2, hk⟩

theorem mem_head {A : Asn} {M : List Asn} : A ∈ A :: M := .head _
theorem mem_tail {A B : Asn} {M : List Asn} (h : A ∈ M) : A ∈ B :: M := .tail _ h
theorem Fit.cons {A : Asn} {L M N : List Asn} (h : Pull A M N) (k : Ent N L) : Ent M (A :: L) := Ent.trans h (Ent.cons A k)
/-! ## what a world satisfies -/
def Facts (D : List Asn) (z : Hp) : Prop := ∀ φ ∈ D, ∃ y, Hp.le y z ∧ φ y

structure Sat (σ : World) (D M : List Asn) (w : World) : Prop where
  os : w.os = σ.os ∧ σ.drawn ≤ w.drawn
  tape : w.tape = σ.tape
  output : w.output = σ.output
  heap : ∃ z h, Hp.le z (hp w) ∧ Hp.le h (hp w) ∧ Hp.disj z h ∧ Facts D z ∧ Holds M h

def pt (b : Nat) (o : Obj) : Asn := fun h => h b = some o

theorem Sat.ent {σ w : World} {D M N : List Asn} (h : Sat σ D M w) (e : Ent M N) : Sat σ D N w := by
  obtain ⟨z, k, a, b, c, d, f⟩ := h.heap
  exact ⟨h.os, h.tape, h.output, z, k, a, b, c, d, e _ f⟩

def SubD (X D : List Asn) : Prop := ∀ φ ∈ X, φ ∈ D
theorem SubD.refl (D : List Asn) : SubD D D := fun _ h => h
theorem SubD.nil (D : List Asn) : SubD [] D := fun _ h => (by cases h)
theorem SubD.cons {A : Asn} {X D : List Asn} (h : A ∈ D) (k : SubD X D) : SubD (A :: X) D := fun _ hφ => by
  cases hφ with
  | head => exact h
  | tail _ h' => exact k _ h'
theorem SubD.skip {A : Asn} {X D : List Asn} (k : SubD X D) : SubD X (A :: D) := fun φ hφ => .tail _ (k _ hφ)
theorem SubD.append {X Y D : List Asn} (h : SubD X D) (k : SubD Y D) : SubD (X ++ Y) D := fun φ hφ => by
  rcases List.mem_append.1 hφ with a | a
  · exact h _ a
  · exact k _ a

theorem Sat.facts {σ w : World} {D X M : List Asn} (h : Sat σ D M w) (e : SubD X D) : Sat σ X M w := by
  obtain ⟨z, k, a, b, c, d, f⟩ := h.heap
  exact ⟨h.os, h.tape, h.output, z, k, a, b, c, fun φ hφ => d φ (e φ hφ), f⟩

theorem Sat.fact {σ w : World} {D M : List Asn} {φ : Asn} (h : Sat σ D M w) (e : φ ∈ D) : ∃ y, Hp.le y (hp w) ∧ φ y := by
  obtain ⟨z, k, a, b, c, d, f⟩ := h.heap
  obtain ⟨y, hy, hφ⟩ := d φ e
  exact ⟨y, hy.trans a, hφ⟩
theorem Sat.own {σ w : World} {D M : List Asn} {A : Asn} (h : Sat σ D M w) (e : A ∈ M) : ∃ y, Hp.le y (hp w) ∧ A y := by
  obtain ⟨z, k, a, b, c, d, f⟩ := h.heap
  obtain ⟨y, hy, hA⟩ := f.mem e
  exact ⟨y, hy.trans b, hA⟩
theorem Sat.block {σ w : World} {D M : List Asn} {b : Nat} {o : Obj} (h : Sat σ D M w) (e : pt b o ∈ M) : w.heap[b]? = some o := by
  obtain ⟨y, l, hy⟩ := h.own e
  exact l _ _ hy
theorem Sat.blockD {σ w : World} {D M : List Asn} {b : Nat} {o : Obj} (h : Sat σ D M w) (e : pt b o ∈ D) : w.heap[b]? = some o := by
  obtain ⟨y, l, hy⟩ := h.fact e
  exact l _ _ hy

theorem Sat.derive {σ w : World} {D M : List Asn} {φ ψ : Asn} (h : Sat σ D M w) (e : φ ∈ D) (i : ∀ z, φ z → ψ z) : Sat σ (ψ :: D) M w := by
  obtain ⟨z, k, a, b, c, d, f⟩ := h.heap
  refine ⟨h.os, h.tape, h.output, z, k, a, b, c, fun χ hχ => ?_, f⟩
  cases hχ with
  | head => obtain ⟨y, hy, hφ⟩ := d φ e; exact ⟨y, hy, i _ hφ⟩
  | tail _ h' => exact d χ h'

theorem Sat.freeze {σ w : World} {D M : List Asn} {A : Asn} (h : Sat σ D (A :: M) w) : Sat σ (A :: D) M w := by
  obtain ⟨z, k, a, b, c, d, ⟨h1, h2, l1, l2, d', hA, hM⟩⟩ := h.heap
  have dz : Hp.disj z h1 := c.le l1
  refine ⟨h.os, h.tape, h.output, Hp.union z h1, h2, Hp.union_le a (l1.trans b), l2.trans b, Hp.disj_union (c.le l2) d', fun χ hχ => ?_, hM⟩
  cases hχ with
  | head => exact ⟨h1, Hp.le_union_right dz, hA⟩
  | tail _ h' => obtain ⟨y, hy, hφ⟩ := d χ h'; exact ⟨y, hy.trans (Hp.le_union_left _ _), hφ⟩

theorem hp_alloc (w : World) (o : Obj) : hp (w.alloc o) = fun b => if b = w.heap.size then some o else hp w b := by
  funext b
  simp only [hp, World.alloc, Array.getElem?_push]
theorem Sat.alloc {σ w : World} {D M : List Asn} (h : Sat σ D M w) (o : Obj) : Sat σ D (pt w.heap.size o :: M) (w.alloc o) := by
  obtain ⟨z, k, a, b, c, d, f⟩ := h.heap
  have hn : hp w w.heap.size = none := by simp [hp]
  have zn : z w.heap.size = none := by
    cases e : z w.heap.size with
    | none => rfl
    | some u => rw [a _ _ e] at hn; cases hn
  have kn : k w.heap.size = none := by
    cases e : k w.heap.size with
    | none => rfl
    | some u => rw [b _ _ e] at hn; cases hn
  have up : Hp.le (hp w) (hp (w.alloc o)) := fun x u e => by
    rw [hp_alloc]
    by_cases hx : x = w.heap.size
    · subst hx; rw [hn] at e; cases e
    · simp [hx, e]
  let one : Hp := fun x => if x = w.heap.size then some o else none
  have d1 : Hp.disj one k := fun x => by
    by_cases hx : x = w.heap.size
    · right; subst hx; exact kn
    · left; simp [one, hx]
  have d2 : Hp.disj z one := fun x => by
    by_cases hx : x = w.heap.size
    · left; subst hx; exact zn
    · right; simp [one, hx]
  refine ⟨h.os, h.tape, h.output, z, Hp.union one k, a.trans up, Hp.union_le ?_ (b.trans up), (Hp.disj_union d2.symm c.symm).symm, d, one, k, Hp.le_union_left _ _, Hp.le_union_right d1, d1, by simp [pt, one], f⟩
  intro x u e
  rw [hp_alloc]
  by_cases hx : x = w.heap.size
  · simp [one, hx] at e; simp [hx, e]
  · simp [one, hx] at e

def setB (w : World) (b : Nat) (o : Obj) : World := { w with heap := w.heap.setIfInBounds b o }
theorem hp_setB (w : World) (b : Nat) (o : Obj) (hb : b < w.heap.size) : hp (setB w b o) = fun x => if x = b then some o else hp w x := by
  funext x
  simp only [hp, setB, Array.getElem?_setIfInBounds]
  by_cases h : b = x
  · subst h; simp [hb]
  · simp [h, Ne.symm h]
theorem Sat.setB {σ w : World} {D M N : List Asn} {b : Nat} {o o' : Obj} (h : Sat σ D M w) (u : Upd (pt b o) (pt b o') M N) : Sat σ D N (setB w b o') := by
  obtain ⟨O, e1, e2⟩ := u
  have h' := h.ent e1
  obtain ⟨z, k, a, c, dj, d, ⟨h1, h2, l1, l2, d', hA, hM⟩⟩ := h'.heap
  have hb : b < w.heap.size := by
    have := c _ _ (l1 _ _ hA)
    exact (Array.getElem?_eq_some_iff.1 this).1
  have zb : z b = none := by
    rcases dj b with e | e
    · exact e
    · rw [l1 _ _ hA] at e; cases e
  have h2b : h2 b = none := by
    rcases d' b with e | e
    · rw [show h1 b = some o from hA] at e; cases e
    · exact e
  let one : Hp := fun x => if x = b then some o' else none
  have keep : ∀ {g : Hp}, Hp.le g (hp w) → g b = none → Hp.le g (hp (Cv.setB w b o')) := by
    intro g lg gb x u e
    rw [hp_setB _ _ _ hb]
    by_cases hx : x = b
    · subst hx; rw [gb] at e; cases e
    · simp [hx, lg _ _ e]
  have d1 : Hp.disj one h2 := fun x => by
    by_cases hx : x = b
    · right; subst hx; exact h2b
    · left; simp [one, hx]
  have d2 : Hp.disj z one := fun x => by
    by_cases hx : x = b
    · left; subst hx; exact zb
    · right; simp [one, hx]
  refine Sat.ent ⟨h.os, h.tape, h.output, z, Hp.union one h2, keep a zb, Hp.union_le ?_ (keep (l2.trans c) h2b), (Hp.disj_union d2.symm (dj.le l2).symm).symm, d, (show Holds (pt b o' :: O) (Hp.union one h2) from ⟨one, h2, Hp.le_union_left _ _, Hp.le_union_right d1, d1, by simp [pt, one], hM⟩)⟩ e2
  intro x u e
  rw [hp_setB _ _ _ hb]
  by_cases hx : x = b
  · simp [one, hx] at e; simp [hx, e]
  · simp [one, hx] at e

theorem Sat.drew {σ w : World} {D M : List Asn} (h : Sat σ D M w) (n : Nat) (hn : w.drawn ≤ n := by first | exact Nat.le_succ _ | exact Nat.le_refl _ | omega | exact Nat.le_add_right _ _ | (simp; done)) : Sat σ D M { w with drawn := n } := ⟨⟨h.os.1, Nat.le_trans h.os.2 hn⟩, h.tape, h.output, h.heap⟩

/-! ## folding and unfolding -/
def all (L : List Asn) : Asn := fun h => Holds L h
theorem Ent.unfold {L M : List Asn} : Ent (all L :: M) (L ++ M) := fun _ ⟨h1, h2, l1, l2, d, ha, hm⟩ => Holds.append.2 ⟨h1, h2, l1, l2, d, ha, hm⟩
theorem Ent.fold {L M : List Asn} : Ent (L ++ M) (all L :: M) := fun _ H => by
  obtain ⟨h1, h2, l1, l2, d, hm, hn⟩ := Holds.append.1 H
  exact ⟨h1, h2, l1, l2, d, hm, hn⟩
theorem Ent.imp {A B : Asn} {M : List Asn} (i : ∀ h, A h → B h) : Ent (A :: M) (B :: M) := fun _ ⟨h1, h2, l1, l2, d, ha, hm⟩ => ⟨h1, h2, l1, l2, d, i _ ha, hm⟩
theorem Sat.ex {σ w : World} {D M : List Asn} {α : Sort _} {A : α → Asn} (h : Sat σ D ((fun k => ∃ x, A x k) :: M) w) : ∃ x, Sat σ D (A x :: M) w := by
  obtain ⟨z, k, a, b, c, d, ⟨h1, h2, l1, l2, d', ⟨x, hA⟩, hM⟩⟩ := h.heap
  exact ⟨x, h.os, h.tape, h.output, z, k, a, b, c, d, h1, h2, l1, l2, d', hA, hM⟩
theorem Sat.pure {σ w : World} {D M : List Asn} {A : Asn} {p : Prop} (h : Sat σ D (A :: M) w) (i : ∀ k, A k → p) : p := by
  obtain ⟨y, _, hy⟩ := h.own (.head _)
  exact i _ hy
end Cv
namespace Cv
open Go
/-! ## code that may stand in a round, or not -/
abbrev Post := Exit → Act → World → Prop
def fR (r : Option Nat) : Fence := { Fence.wide with round := r }
def noRF : Code → Bool
  | .seq x y => noRF x && noRF y
  | .cond _ x y => noRF x && noRF y
  | .block _ c => noRF c
  | .loop c => noRF c
  | .scope c => noRF c
  | .rangeFunc .. => false
  | _ => true
def wq (P : Program) (c : Code) (Q : Post) (a : Act) (w : World) : Prop := ∀ r, (r = none ∨ noRF c = true) → c.wpIn (fR r) 0 P Q a w
section
variable {P : Program} {Q : Post} {a : Act} {w : World} {ops : Array Oper} {o : Oper}
theorem wq_mono {c : Code} {Q' : Post} (hq : ∀ e a w, Q e a w → Q' e a w) (h : wq P c Q a w) : wq P c Q' a w := fun r hr => wpIn_mono (h r hr) hq
theorem then_mono {n1 n2 : Act → World → Prop} (h : ∀ a w, n1 a w → n2 a w) : ∀ (e : Exit) (a : Act) (w : World), Exit.then n1 Q e a w → Exit.then n2 Q e a w := fun e a w h1 => by
  cases e with
  | normal => exact h _ _ h1
  | _ => exact h1
theorem wq_skip (h : Q .normal a w) : wq P Code.skip Q a w := fun r _ => wpIn_skip h
theorem wq_exit {id : Nat} (h : Q (.exit id) a w) : wq P (Code.exit id) Q a w := fun r _ => wpIn_exit h
theorem wq_ret (h : Q .ret a w) : wq P Code.ret Q a w := fun r _ => wpIn_ret h
theorem wq_seq {x y : Code} (h : wq P x (Exit.then (wq P y Q) Q) a w) : wq P (Code.seq x y) Q a w := fun r hr => wpIn_seq (wpIn_mono (h r (hr.imp id fun e => by simp only [noRF, Bool.and_eq_true] at e; exact e.1)) (then_mono fun a w h => h r (hr.imp id fun e => by simp only [noRF, Bool.and_eq_true] at e; exact e.2)))
theorem wq_cond_true {c : Operand} {x y : Code} (hc : a.eval c = .bool true) (h : wq P x Q a w) : wq P (Code.cond c x y) Q a w := fun r hr => wpIn_cond_true hc (h r (hr.imp id fun e => by simp only [noRF, Bool.and_eq_true] at e; exact e.1))
theorem wq_cond_false {c : Operand} {x y : Code} (hc : a.eval c = .bool false) (h : wq P y Q a w) : wq P (Code.cond c x y) Q a w := fun r hr => wpIn_cond_false hc (h r (hr.imp id fun e => by simp only [noRF, Bool.and_eq_true] at e; exact e.2))
theorem wq_block {id : Nat} {c : Code} (h : wq P c (Exit.inBlock id Q) a w) : wq P (Code.block id c) Q a w := fun r hr => wpIn_block (h r hr)
theorem wq_loop {c : Code} (I : Nat → Act → World → Prop) (n₀ : Nat) (h₀ : I n₀ a w) (round : ∀ n a w, I n a w → wq P c (Exit.then (fun a' w' => ∃ n', n' < n ∧ I n' a' w') Q) a w) : wq P (Code.loop c) Q a w := fun r hr =>
  wpIn_loop_ghost I n₀ h₀ (fun n a w h => round n a w h r hr)
theorem stepR_scope {b : Frame} {a : Act} {k : List Item} {cs : List Frame} {w : World} {c : Code} : step P (lone (b.atR a (.code (.scope c) :: k)) cs w) = .next (lone (b.atR a (.code c :: .inScope c :: k)) cs w) :=
  step_lone_go (by simp [stepG, stepG.exec, Frame.atR])
theorem stepR_inScope {b : Frame} {a : Act} {k : List Item} {cs : List Frame} {w : World} {c : Code} : step P (lone (b.atR a (.inScope c :: k)) cs w) = .next (lone (b.atR a k) cs w) :=
  step_lone_go (by simp [stepG, stepG.exec, Frame.atR])
theorem wq_scope {c : Code} (h : wq P c (Exit.noGoto Q) a w) : wq P (Code.scope c) Q a w := by
  intro r hrf b k cs hro hb hr
  obtain ⟨e, a₁, w₁, hq, harr⟩ := h r hrf b (.inScope c :: k) cs hro hb hr
  have h0 : (lone (b.atR a (.code (.scope c) :: k)) cs w).fenced P (fR r) := fenced_calm hb hr rfl
  cases e with
  | normal => exact ⟨.normal, a₁, w₁, hq, .head h0 stepR_scope (StepsIn.trans harr (.one (fenced_calm hb hr rfl) stepR_inScope))⟩
  | exit id =>
    have hx : exitTo id (.inScope c :: k) = exitTo id k := by simp [exitTo]
    exact ⟨.exit id, a₁, w₁, hq, fun k' hk => .head h0 stepR_scope (harr.1 k' (by rw [hx]; exact hk)), fun hr' hk => let ⟨k₁, h1, h2⟩ := harr.2 hr' (by rw [hx]; exact hk); ⟨k₁, h1, .head h0 stepR_scope h2⟩⟩
  | goto l => exact hq.elim
  | ret => exact ⟨_, a₁, w₁, hq, .of_steps (.one h0 stepR_scope) harr⟩
  | panic ch => exact ⟨_, a₁, w₁, hq, .of_steps (.one h0 stepR_scope) harr⟩
  | outgrown => exact ⟨_, a₁, w₁, hq, .of_steps (.one h0 stepR_scope) harr⟩
/-! ### operations -/
def Calm (o : Oper) : Prop := ∀ c, o.op ≠ .defer c
theorem opIn {r : Option Nat} {K : Act → World → Prop} (hc : Calm o) (h : o.wp P a w K Q) : o.wpIn (fR r) 0 P a w K Q := by
  refine ⟨fun f _ => trivial, ?_⟩
  rw [Oper.semAt_eq _ _ _ hc]
  unfold Oper.wp at h
  generalize (execOp a.eval o).run P w = x at *
  cases x with
  | ok x w' =>
    cases x <;> simp only [Oper.upon] at h <;> simp only [Oper.uponIn] <;>
      first
        | exact h
        | exact ⟨fun e => (by cases e), (callsIn_wide (n := 0)).2 h⟩
        | exact ⟨fun e => (by cases e), fun c cs _ => let ⟨v, w', r, s⟩ := h c cs; ⟨v, w', r, stepsIn_wide.2 s⟩⟩
  | halt x w' => cases x <;> simp only [Oper.upon] at h <;> simp only [Oper.uponIn] <;> exact h
def wpL (P : Program) (ops : Array Oper) (Q : Post) (y : Bool) : List Oper → Act → World → Prop
  | [], a, w => Q .normal a w
  | o :: rest, a, w =>
    if Region.wanted o (yielded ops a.tmps) then (Calm o ∧ o.wp P a w (wpL P ops Q y rest) Q) ∨ (y = true ∧ ∀ r, o.wpIn (fR r) 0 P a w (wpL P ops Q y rest) Q) else wpL P ops Q y rest (a.put o.dst undef) w
theorem wpL.toIn {r : Option Nat} {y : Bool} : ∀ (l : List Oper) (a : Act) (w : World), wpL P ops Q y l a w → wpListIn (fR r) 0 P ops Q l a w
  | [], _, _, h => h
  | o :: rest, a, w, h => by
    simp only [wpL] at h
    simp only [wpListIn]
    split
    · rename_i hw
      rw [if_pos hw] at h
      rcases h with ⟨h1, h2⟩ | ⟨_, h⟩
      · exact Oper.wpIn_mono (fun a w => wpL.toIn rest a w) (opIn h1 h2)
      · exact Oper.wpIn_mono (fun a w => wpL.toIn rest a w) (h r)
    · rename_i hw
      rw [if_neg hw] at h
      exact ⟨fun f _ => trivial, wpL.toIn rest _ _ h⟩
theorem wpL.plain {y : Bool} {rest : List Oper} (hg : o.guard = none) (hc : Calm o) (h : ∀ K' : Act → World → Prop, (∀ a w, wpL P ops Q y rest a w → K' a w) → o.wp P a w K' Q) : wpL P ops Q y (o :: rest) a w := by
  have hw : Region.wanted o (yielded ops a.tmps) = true := by simp [Region.wanted, hg]
  simp only [wpL]
  rw [if_pos hw]
  exact .inl ⟨hc, h _ (fun _ _ h => h)⟩
theorem wpL.skip {y : Bool} {rest : List Oper} (hw : Region.wanted o (yielded ops a.tmps) = false) (h : wpL P ops Q y rest (a.put o.dst undef) w) : wpL P ops Q y (o :: rest) a w := by
  simp only [wpL]
  rw [if_neg (by simp [hw])]
  exact h
theorem wq_region {id : Nat} {y : Bool} {l : List Oper} (h : wpL P l.toArray Q y l a w) : wq P (Code.region id l.toArray false) Q a w := fun r _ => wpIn_region_lit (h.toIn)
def NoPO (Q : Post) : Post
  | .panic _, _, _ => False
  | .outgrown, _, _ => False
  | e, a, w => Q e a w
theorem NoPO.normal (h : Q .normal a w) : NoPO Q .normal a w := h
theorem NoPO.imp : ∀ (e : Exit) (a : Act) (w : World), NoPO Q e a w → Q e a w := fun e a w h => by
  cases e <;> first | exact h | exact (h : False).elim
theorem NoPO.lets : ¬ LetsOut (NoPO Q) := fun ⟨_, _, h⟩ => h
def calmB (l : List Oper) : Bool := l.all fun o => match o.op with | .defer _ => false | _ => true
theorem calmB.mem {l : List Oper} (h : calmB l = true) {o : Oper} (ho : o ∈ l) : Calm o := fun c hc => by
  have := List.all_eq_true.1 h o ho
  rw [hc] at this
  cases this
theorem anyIn {r : Option Nat} {md : Region.Mode} (hc : calmB ops.toList = true) (hl : ¬ LetsOut Q) : ∀ (fuel : Nat) (listed : Array Bool) (a : Act) (w : World), wpAny P md ops Q fuel listed a w → wpAnyIn (fR r) 0 P md ops Q fuel listed a w
  | 0, _, _, _, h => h
  | fuel + 1, _, a, w, h => ⟨h.1, fun i hi => by
    have h1 := h.2 i hi
    unfold wpOp at h1
    unfold wpOpIn
    cases ho : ops[i]? with
    | none => simp only [ho] at h1 ⊢; exact anyIn hc hl fuel _ _ _ h1
    | some o =>
      simp only [ho] at h1 ⊢
      have hm : o ∈ ops.toList := by
        have := List.mem_of_getElem? (l := ops.toList) (i := i) (a := o) (by simpa using ho)
        exact this
      split
      · rename_i hw
        rw [if_pos hw] at h1
        rcases h1 with h1 | ⟨_, h1⟩
        · exact Oper.wpIn_mono (fun a w => anyIn hc hl fuel _ a w) (opIn (calmB.mem hc hm) h1)
        · exact absurd h1 hl
      · rename_i hw
        rw [if_neg hw] at h1
        exact ⟨fun f _ => trivial, anyIn hc hl fuel _ _ _ h1⟩⟩
theorem wq_any {id : Nat} (hm : P.follows .mixedOrders = true) (hc : calmB ops.toList = true) (h : wpAny P .any ops (NoPO Q) ops.size (Array.replicate ops.size false) a { w with drawn := w.drawn + 1 }) : wq P (Code.region id ops true) Q a w := fun r _ =>
  wpIn_mono (wpIn_region_any hm (anyIn hc NoPO.lets _ _ _ _ h)) NoPO.imp
theorem wq_quiet {C : World → Prop} {id : Nat} (hm : P.follows .mixedOrders = true) (hB : Region.lexB .any ops = true) (hc : calmB ops.toList = true) (hC : C { w with drawn := w.drawn + 1 })
    (h : wpQuiet P ops C (fun a' => ∀ w', C w' → Q .normal a' w') ops.toList a) : wq P (Code.region id ops true) Q a w := by
  simp only [Region.lexB, Bool.and_eq_true] at hB
  refine wq_any hm hc (wpAny_of_quiet (Q := fun a' => ∀ w', C w' → Q .normal a' w') (fun _ w' hw' h => NoPO.normal (h w' hw')) _ _ _ _ hC ?_)
  have := wpAnyQ_lex (C := C) (md := .any) hB.1 ops.toList 0 (Array.replicate ops.size false) a (by simp) (by simpa using hB.2) h
  simpa using this
end
/-! ## what a walk carries beside: the marks among the activation's deferred calls; may yield be called -/
def dfl (σ : World) : List Deferred := match σ.heap[0]? with | some (Obj.deferred (some ds)) => ds | _ => []
def yok (σ : World) : Bool := Nat.ble σ.heap.size 1
def dset (σ : World) (ds : List Deferred) : World := { σ with heap := #[Obj.deferred (some ds)] }
def dr (σ : World) : World := { σ with heap := #[Obj.deferred (some (dfl σ)), Obj.deferred none] }
theorem yok_dr {σ : World} : yok (dr σ) = false := rfl
theorem Sat.dset {σ w : World} {D M : List Asn} {ds : List Deferred} (h : Sat σ D M w) : Sat (dset σ ds) D M w := ⟨h.os, h.tape, h.output, h.heap⟩
theorem Sat.undset {σ w : World} {D M : List Asn} {ds : List Deferred} (h : Sat (Cv.dset σ ds) D M w) : Sat σ D M w := ⟨h.os, h.tape, h.output, h.heap⟩
theorem Sat.dr {σ w : World} {D M : List Asn} (h : Sat σ D M w) : Sat (dr σ) D M w := ⟨h.os, h.tape, h.output, h.heap⟩
theorem Sat.undr {σ w : World} {D M : List Asn} (h : Sat (Cv.dr σ) D M w) : Sat σ D M w := ⟨h.os, h.tape, h.output, h.heap⟩
abbrev bPost (P : Program) (fn : Func) (R : Ending → World → Prop) : Post := bodyPostM Fence.wide 0 P fn R
end Cv
namespace Cv
open Go

abbrev Env := List (Nat × Value)
def get : Env → Nat → Option Value
  | [], _ => none
  | (s, v) :: K, t => cond (Nat.beq s t) (some v) (get K t)
def ev (K : Env) : Operand → Option Value
  | .tmp t => get K t
  | .const v => some v
  | .global g => some (.pointer (some ⟨g, 0, none⟩))
  | .func f => some (.func (.func f) #[] #[])
def evs (K : Env) : List Operand → List Value → Prop
  | [], [] => True
  | x :: xs, v :: vs => ev K x = some v ∧ evs K xs vs
  | _, _ => False
theorem evs.nil {K : Env} : evs K [] [] := trivial
theorem evs.cons {K : Env} {x : Operand} {xs : List Operand} {v : Value} {vs : List Value} (h : ev K x = some v) (k : evs K xs vs) : evs K (x :: xs) (v :: vs) := ⟨h, k⟩

structure Slots (σ : World) (n : Nat) (K : Env) (a : Act) : Prop where
  defers : a.defers = dfl σ
  size : a.tmps.size = n
  val : ∀ t v, get K t = some v → a.tmps.getD t undef = v

theorem Slots.eval {σ : World} {n : Nat} {K : Env} {a : Act} (h : Slots σ n K a) {x : Operand} {v : Value} (e : ev K x = some v) : a.eval x = v := by
  cases x with
  | tmp t => exact h.val t v e
  | const u => cases e; rfl
  | global g => cases e; rfl
  | func f => cases e; rfl
theorem Slots.evals {σ : World} {n : Nat} {K : Env} {a : Act} (h : Slots σ n K a) : ∀ {xs : List Operand} {vs : List Value}, evs K xs vs → xs.map a.eval = vs
  | [], [], _ => rfl
  | _ :: _, _ :: _, ⟨e, k⟩ => by rw [List.map_cons, h.eval e, h.evals k]
  | [], _ :: _, k => k.elim
  | _ :: _, [], k => k.elim

theorem Slots.put {σ : World} {n d : Nat} {K : Env} {a : Act} (h : Slots σ n K a) (v : Value) (hd : Nat.blt d n = true) : Slots σ n ((d, v) :: K) (a.put (some d) v) := by
  have hd' : d < n := by
    have := Nat.le_of_ble_eq_true hd
    omega
  refine ⟨h.defers, ?_, fun t u e => ?_⟩
  · simp [Act.put, h.size]
  · simp only [get] at e
    simp only [Act.put, Array.getD_eq_getD_getElem?, Array.getElem?_setIfInBounds]
    by_cases ht : d = t
    · subst ht
      simp only [Nat.beq_refl, cond_true, Option.some.injEq] at e
      subst e
      simp [h.size, hd']
    · have : Nat.beq d t = false := by
        cases hb : Nat.beq d t with
        | false => rfl
        | true => exact absurd (Nat.eq_of_beq_eq_true hb) ht
      rw [this, cond_false] at e
      have := h.val t u e
      rw [Array.getD_eq_getD_getElem?] at this
      simp [ht, this]
theorem Slots.put' {σ : World} {n : Nat} {K : Env} {a : Act} (h : Slots σ n K a) (v : Value) : Slots σ n K (a.put none v) := h

def SubK (X K : Env) : Prop := ∀ t v, get X t = some v → get K t = some v
theorem SubK.refl (K : Env) : SubK K K := fun _ _ h => h
theorem SubK.nil (K : Env) : SubK [] K := fun _ _ h => by cases h
theorem SubK.cons {X K : Env} {t : Nat} {v : Value} (h : get K t = some v) (k : SubK X K) : SubK ((t, v) :: X) K := fun s u e => by
  simp only [get] at e
  cases hb : Nat.beq t s with
  | true =>
    rw [hb, cond_true] at e
    cases e
    rw [← Nat.eq_of_beq_eq_true hb]
    exact h
  | false =>
    rw [hb, cond_false] at e
    exact k s u e
theorem get_append (X Y : Env) (t : Nat) : get (X ++ Y) t = match get X t with | some v => some v | none => get Y t := by
  induction X with
  | nil => rfl
  | cons x X ih =>
    obtain ⟨s, v⟩ := x
    show cond (Nat.beq s t) (some v) (get (X ++ Y) t) = _
    simp only [get]
    cases Nat.beq s t with
    | true => rfl
    | false => simpa using ih
theorem SubK.append {X Y K : Env} (h : SubK X K) (k : SubK Y K) : SubK (X ++ Y) K := fun t v e => by
  rw [get_append] at e
  cases hx : get X t with
  | some u => rw [hx] at e; cases e; exact h t _ hx
  | none => rw [hx] at e; exact k t v e
theorem Slots.sub {σ : World} {n : Nat} {X K : Env} {a : Act} (h : Slots σ n K a) (e : SubK X K) : Slots σ n X a := ⟨h.defers, h.size, fun t v g => h.val t v (e t v g)⟩

theorem Slots.dr {σ : World} {n : Nat} {K : Env} {a : Act} (h : Slots σ n K a) : Slots (Cv.dr σ) n K a := ⟨h.defers, h.size, h.val⟩
theorem Slots.undr {σ : World} {n : Nat} {K : Env} {a : Act} (h : Slots (Cv.dr σ) n K a) : Slots σ n K a := ⟨h.defers, h.size, h.val⟩
def T (σ : World) (n : Nat) (G : Act → World → Prop) (K : Env) (D M : List Asn) : Prop := ∀ a w, Slots σ n K a → Sat σ D M w → G a w

section
variable {P : Program} {σ : World} {n : Nat} {G : Act → World → Prop} {Q : Post} {K : Env} {D M : List Asn}

theorem T.weak {K' : Env} {D' M' : List Asn} (h : T σ n G K' D' M') (hK : SubK K' K) (hD : SubD D' D) (hM : Ent M M') : T σ n G K D M :=
  fun a w s t => h a w (s.sub hK) ((t.facts hD).ent hM)
theorem T.keep {K' : Env} (hK : SubK K' K) (h : T σ n G K' D M) : T σ n G K D M := h.weak hK (.refl _) (.refl _)
theorem T.drop {M' : List Asn} (hM : Ent M M') (h : T σ n G K D M') : T σ n G K D M := h.weak (.refl _) (.refl _) hM
theorem T.freeze {A : Asn} {N : List Asn} (hM : Pull A M N) (h : T σ n G K (A :: D) N) : T σ n G K D M := fun a w s t => h a w s (t.ent hM).freeze
theorem T.derive {φ ψ : Asn} (e : φ ∈ D) (i : ∀ z, φ z → ψ z) (h : T σ n G K (ψ :: D) M) : T σ n G K D M := fun a w s t => h a w s (t.derive e i)
theorem T.deriveEx {α : Sort _} {φ : Asn} {ψ : α → Asn} (e : φ ∈ D) (i : ∀ z, φ z → ∃ x, ψ x z) (h : ∀ x, T σ n G K (ψ x :: D) M) : T σ n G K D M := fun a w s t => by
  obtain ⟨z, k, h1, h2, h3, h4, h5⟩ := t.heap
  obtain ⟨y, l, hy⟩ := h4 φ e
  obtain ⟨x, hx⟩ := i y hy
  refine h x a w s ⟨t.os, t.tape, t.output, z, k, h1, h2, h3, fun χ hχ => ?_, h5⟩
  cases hχ with
  | head => exact ⟨y, l, hx⟩
  | tail _ h' => exact h4 χ h'
theorem T.fact {p : Prop} {φ : Asn} (e : φ ∈ D) (i : ∀ z, φ z → p) (h : p → T σ n G K D M) : T σ n G K D M := fun a w s t => by
  obtain ⟨y, _, hy⟩ := t.fact e
  exact h (i y hy) a w s t
theorem T.pure {p : Prop} {A : Asn} (e : A ∈ M) (i : ∀ z, A z → p) (h : p → T σ n G K D M) : T σ n G K D M := fun a w s t => by
  obtain ⟨y, _, hy⟩ := t.own e
  exact h (i y hy) a w s t
def AppL {α : Type _} (X Y Z : List α) : Prop := X ++ Y = Z
theorem AppL.nil {α : Type _} {Y : List α} : AppL [] Y Y := rfl
theorem AppL.cons {α : Type _} {A : α} {X Y Z : List α} (h : AppL X Y Z) : AppL (A :: X) Y (A :: Z) := congrArg (A :: ·) h
theorem AppL.refl {α : Type _} {X Y : List α} : AppL X Y (X ++ Y) := rfl
theorem T.norm {X Y D2 M2 : List Asn} (h1 : AppL X D D2) (h2 : AppL Y M M2) (h : T σ n G K D2 M2) : T σ n G K (X ++ D) (Y ++ M) := by subst h1; subst h2; exact h
theorem T.norm3 {X Y D2 M2 : List Asn} {Z K2 : Env} (h0 : AppL Z K K2) (h1 : AppL X D D2) (h2 : AppL Y M M2) (h : T σ n G K2 D2 M2) : T σ n G (Z ++ K) (X ++ D) (Y ++ M) := by subst h0; subst h1; subst h2; exact h
/-! ### code -/
theorem T.seq {x y : Code} (h : T σ n (wq P x (Exit.then (wq P y Q) Q)) K D M) : T σ n (wq P (Code.seq x y) Q) K D M := fun a w s t => wq_seq (h a w s t)
theorem T.skip (h : T σ n (Q .normal) K D M) : T σ n (wq P Code.skip Q) K D M := fun a w s t => wq_skip (h a w s t)
theorem T.cond {c : Operand} {x y : Code} {b : Bool} (hc : ev K c = some (.bool b)) (h1 : b = true → T σ n (wq P x Q) K D M) (h2 : b = false → T σ n (wq P y Q) K D M) :
    T σ n (wq P (Code.cond c x y) Q) K D M := fun a w s t => by
  cases b with
  | true => exact wq_cond_true (s.eval hc) (h1 rfl a w s t)
  | false => exact wq_cond_false (s.eval hc) (h2 rfl a w s t)
theorem T.condT {c : Operand} {x y : Code} {b : Bool} (hc : ev K c = some (.bool b)) (hb : b = true) (h : T σ n (wq P x Q) K D M) :
    T σ n (wq P (Code.cond c x y) Q) K D M := by subst hb; exact T.cond hc (fun _ => h) (fun e => by cases e)
theorem T.condF {c : Operand} {x y : Code} {b : Bool} (hc : ev K c = some (.bool b)) (hb : b = false) (h : T σ n (wq P y Q) K D M) :
    T σ n (wq P (Code.cond c x y) Q) K D M := by subst hb; exact T.cond hc (fun e => by cases e) (fun _ => h)
theorem T.block {id : Nat} {c : Code} (h : T σ n (wq P c (Exit.inBlock id Q)) K D M) : T σ n (wq P (Code.block id c) Q) K D M := fun a w s t => wq_block (h a w s t)
theorem T.exit {id : Nat} (h : T σ n (Q (.exit id)) K D M) : T σ n (wq P (Code.exit id) Q) K D M := fun a w s t => wq_exit (h a w s t)
theorem T.ret (h : T σ n (Q .ret) K D M) : T σ n (wq P Code.ret Q) K D M := fun a w s t => wq_ret (h a w s t)
theorem T.thenN {nx : Act → World → Prop} (h : T σ n nx K D M) : T σ n (Exit.then nx Q .normal) K D M := h
theorem T.thenX {nx : Act → World → Prop} {id : Nat} (h : T σ n (Q (.exit id)) K D M) : T σ n (Exit.then nx Q (.exit id)) K D M := h
theorem T.thenR {nx : Act → World → Prop} (h : T σ n (Q .ret) K D M) : T σ n (Exit.then nx Q .ret) K D M := h
theorem T.blkN {id : Nat} (h : T σ n (Q .normal) K D M) : T σ n (Exit.inBlock id Q .normal) K D M := h
theorem T.blkX {id : Nat} (h : T σ n (Q .normal) K D M) : T σ n (Exit.inBlock id Q (.exit id)) K D M := fun a w s t => by
  show if id = id then _ else _
  rw [if_pos rfl]; exact h a w s t
theorem T.blkY {id j : Nat} (e : Nat.beq j id = false) (h : T σ n (Q (.exit j)) K D M) : T σ n (Exit.inBlock id Q (.exit j)) K D M := fun a w s t => by
  show if j = id then _ else _
  rw [if_neg (fun h => by subst h; simp at e)]; exact h a w s t
theorem T.blkR {id : Nat} (h : T σ n (Q .ret) K D M) : T σ n (Exit.inBlock id Q .ret) K D M := h
def TL (m : Option (List Asn × List Asn)) (P : Program) (σ : World) (n : Nat) (ops : Array Oper) (Q : Post) (l : List Oper) (K : Env) (D M : List Asn) : Prop :=
  match m with
  | none => T σ n (wpL P ops Q (yok σ) l) K D M
  | some (D0, M0) => (SubD D0 D ∧ M = M0 ∧ ∀ w, Sat σ D0 M0 w → Sat σ D M w) → ∀ a, Slots σ n K a → wpQuiet P ops (fun w => Sat σ D0 M0 w) (fun a' => ∀ w, Sat σ D0 M0 w → Q .normal a' w) l a
theorem T.region {id : Nat} {l : List Oper} (h : TL none P σ n l.toArray Q l K D M) : T σ n (wq P (Code.region id l.toArray false) Q) K D M := fun a w s t => wq_region (h a w s t)
theorem T.regionQ {id : Nat} {l : List Oper} (hm : P.follows .mixedOrders = true) (hB : Region.lexB .any l.toArray = true) (h : TL (some (D, M)) P σ n l.toArray Q l K D M) (hc : calmB l = true := by kernel_rfl) : T σ n (wq P (Code.region id l.toArray true) Q) K D M := fun a w s t =>
  wq_quiet (C := fun w => Sat σ D M w) hm hB (by simpa using hc) (t.drew _) (by simpa using h ⟨.refl _, rfl, fun _ t => t⟩ a s)
theorem L.nil {ops : Array Oper} (h : T σ n (Q .normal) K D M) : TL none P σ n ops Q [] K D M := h
theorem L.nilQ {ops : Array Oper} {p : List Asn × List Asn} (h : T σ n (Q .normal) K D M) : TL (some p) P σ n ops Q [] K D M := fun hp a s w t => h a w s (hp.2.2 w t)

/-! ### loops -/
def Back (σ : World) (n : Nat) (I : Env → List Asn → List Asn → Nat → Prop) (Kk : Env) (D F : List Asn) (m : Nat) : Act → World → Prop := fun a w =>
  ∃ K' D' M' m', I K' D' M' m' ∧ m' < m ∧ Slots σ n (K' ++ Kk) a ∧ Sat σ (D' ++ D) (M' ++ F) w
theorem T.loop {c : Code} (I : Env → List Asn → List Asn → Nat → Prop) {Kk K0 : Env} {D0 M0 F : List Asn} {m0 : Nat} (hk : SubK Kk K) (h0 : I K0 D0 M0 m0) (hK : SubK K0 K) (hD : SubD D0 D) (hM : Sel M0 M F)
    (round : ∀ K' D' M' m, I K' D' M' m → T σ n (wq P c (Exit.then (Back σ n I Kk D F m) Q)) (K' ++ Kk) (D' ++ D) (M' ++ F)) :
    T σ n (wq P (Code.loop c) Q) K D M := fun a w s t => by
  refine wq_loop (fun m a w => ∃ K' D' M', I K' D' M' m ∧ Slots σ n (K' ++ Kk) a ∧ Sat σ (D' ++ D) (M' ++ F) w) m0 ⟨K0, D0, M0, h0, s.sub (hK.append hk), (t.facts (SubD.append hD (.refl _))).ent hM⟩ ?_
  rintro m a w ⟨K', D', M', hI, hs, ht⟩
  refine wq_mono (then_mono ?_) (round K' D' M' m hI a w hs ht)
  rintro a w ⟨K2, D2, M2, m2, hI2, hlt, hs2, ht2⟩
  exact ⟨m2, hlt, K2, D2, M2, hI2, hs2, ht2⟩
theorem T.back {I : Env → List Asn → List Asn → Nat → Prop} {Kk : Env} {D0 F : List Asn} {m m' : Nat} {K' : Env} {D' M' : List Asn} (hI : I K' D' M' m') (hm : m' < m)
    (hK : SubK K' K) (hk : SubK Kk K) (hD : SubD D' D) (hd : SubD D0 D) (hM : Ent M (M' ++ F)) : T σ n (Back σ n I Kk D0 F m) K D M := fun _ _ s t =>
  ⟨K', D', M', m', hI, hm, s.sub (hK.append hk), (t.facts (SubD.append hD hd)).ent hM⟩

/-! ### functions -/
def IsFn (P : Program) (f : FuncId) : Prop := ∀ args w, (callFunc f args).run P w = .ok (.enter f args) w
theorem IsFn.of {P : Program} {f : FuncId} {fn : Func} (h : P.funcs[f]? = some fn) (hb : fn.body.isNone = false) (hn : (fn.name == "runtime.NumGoroutine") = false) : IsFn P f := fun args w => by
  simp only [callFunc, program, bind, Sem.bind, Sem.run, h, hn, hb]
  rfl

def RetPost (σ : World) (R : Value → List Asn → List Asn → Prop) (D M : List Asn) (e : Ending) (w : World) : Prop :=
  ∃ v D' M', e = .returned v ∧ R v D' M' ∧ Sat σ (D' ++ D) (M' ++ M) w
structure Spec (P : Program) (f : FuncId) (args : List Value) (D0 M0 : List Asn) (R : Value → List Asn → List Asn → Prop) : Prop where
  fn : IsFn P f
  run : ∀ σ D M w, Sat σ (D0 ++ D) (M0 ++ M) w → Calls P f args.toArray w (RetPost σ R D M)

def argK : Nat → List Value → Env
  | _, [] => []
  | i, v :: vs => (i, v) :: argK (i + 1) vs
theorem get_argK : ∀ (l : List Value) (i t : Nat) (v : Value), get (argK i l) t = some v → i ≤ t ∧ l[t - i]? = some v
  | [], _, _, _, h => by cases h
  | u :: l, i, t, v, h => by
    simp only [argK, get] at h
    cases hb : Nat.beq i t with
    | true =>
      rw [hb, cond_true] at h
      cases h
      have := Nat.eq_of_beq_eq_true hb
      subst this
      simp
    | false =>
      rw [hb, cond_false] at h
      obtain ⟨h1, h2⟩ := get_argK l (i + 1) t v h
      refine ⟨by omega, ?_⟩
      rw [show t - i = (t - (i + 1)) + 1 from by omega, List.getElem?_cons_succ]
      exact h2
theorem Spec.intro {f : FuncId} {fn : Func} {c : Code} {n : Nat} {args : List Value} {D0 M0 : List Asn} {R : Value → List Asn → List Asn → Prop} (hf : P.funcs[f]? = some fn) (hb : fn.body = some c) (hn : fn.ntmps = n)
    (hnm : (fn.name == "runtime.NumGoroutine") = false) (hl : args.length ≤ n)
    {K0 : Env} (hK0 : argK 0 args = K0) {D2 M2 : List Asn → List Asn} (hD2 : ∀ D, AppL D0 D (D2 D)) (hM2 : ∀ M, AppL M0 M (M2 M))
    (h : ∀ σ D M, T (dset σ []) n (wq P c (bPost P fn (RetPost (dset σ []) R D M))) K0 (D2 D) (M2 M)) : Spec P f args D0 M0 R where
  fn := IsFn.of hf (by rw [hb]; rfl) hnm
  run σ D M w t := by
    subst hn
    subst hK0
    rw [hD2 D, hM2 M] at t
    refine Calls.mono ((callsIn_wide (n := 0)).1 (callsIn_of_wp_marks hf hb trivial (h σ D M _ w ⟨rfl, ?_, fun t v e => ?_⟩ t.dset none (.inl rfl)))) (fun e w' ⟨v, D', M', h1, h2, h3⟩ => ⟨v, D', M', h1, h2, h3.undset⟩)
    · simp; omega
    · obtain ⟨_, h2⟩ := get_argK _ _ _ _ e
      have hlt : t < args.length := by
        have := (List.getElem?_eq_some_iff.1 h2).1
        simpa using this
      simp only [Nat.sub_zero] at h2
      simp only [Array.getD_eq_getD_getElem?]
      rw [Array.getElem?_append_left (by simpa using hlt)]
      simp [h2]

theorem T.ret0 {fn : Func} {R : Value → List Asn → List Asn → Prop} {D0 M0 D' M' : List Asn} {v : Value} {e : Exit} (he : e = .ret ∨ e = .normal) (hv : ∀ a w, Slots (dset σ []) n K a → Sat (dset σ []) D M w → (results fn a.tmps).run P w = .ok v w)
    (hR : R v D' M') (hD : SubD (D' ++ D0) D) (hM : Ent M (M' ++ M0)) : T (dset σ []) n (bPost P fn (RetPost (dset σ []) R D0 M0) e) K D M := fun a w s t => by
  have hd : a.defers = [] := s.defers
  have : LeavesInM Fence.wide 0 P fn a.tmps (RetPost (dset σ []) R D0 M0) a.defers .returning w := by
    rw [hd]
    exact ⟨v, hv a w s t, v, D', M', rfl, hR, (t.facts hD).ent hM⟩
  rcases he with rfl | rfl <;> exact this
theorem T.unmark {fn : Func} {R : Ending → World → Prop} {b : Nat} {ds : List Deferred} {N : List Asn} {e : Exit} (he : e = .ret ∨ e = .normal) (hM : Pull (pt b (.deferred (some []))) M N)
    (h : T (dset σ ds) n (bPost P fn R e) K D N) : T (dset σ ({ target := .collected b, args := #[] } :: ds)) n (bPost P fn R e) K D M := fun a w s t => by
  have hd : a.defers = { target := .collected b, args := #[] } :: ds := s.defers
  have t1 := t.ent hM
  have hb := t1.block (.head _)
  have t2 : Sat (dset σ ds) D N (w.putObj b (.deferred none)) := ((t1.setB (o' := .deferred none) Upd.here).ent (Ent.skip (.refl _))).undset.dset
  have h2 := h { a with defers := ds } _ ⟨rfl, s.size, s.val⟩ t2
  have : LeavesInM Fence.wide 0 P fn a.tmps R a.defers .returning w := by
    rw [hd]
    refine ⟨by simp, .inl ⟨b, _, rfl, run_takeDeferred hb, ?_⟩⟩
    rcases he with rfl | rfl <;> exact h2
  rcases he with rfl | rfl <;> exact this
theorem T.ret1 {fn : Func} {t : Nat} {R : Value → List Asn → List Asn → Prop} {D0 M0 D' M' : List Asn} {v : Value} (hr : fn.results = #[.tmp t]) (hv : get K t = some v)
    (hR : R v D' M') (hD : SubD (D' ++ D0) D) (hM : Ent M (M' ++ M0)) : T (dset σ []) n (bPost P fn (RetPost (dset σ []) R D0 M0) .ret) K D M :=
  T.ret0 (.inl rfl) (fun a w s _ => by rw [results_tmp hr, s.val t v hv]) hR hD hM
theorem T.ret2 {fn : Func} {t u : Nat} {R : Value → List Asn → List Asn → Prop} {D0 M0 D' M' : List Asn} {v x : Value} (hr : fn.results = #[.tmp t, .tmp u]) (hv : get K t = some v) (hx : get K u = some x)
    (hR : R (.tuple #[v, x]) D' M') (hD : SubD (D' ++ D0) D) (hM : Ent M (M' ++ M0)) : T (dset σ []) n (bPost P fn (RetPost (dset σ []) R D0 M0) .ret) K D M :=
  T.ret0 (.inl rfl) (fun a w s _ => by rw [results_tmp2 hr, s.val t v hv, s.val u x hx]) hR hD hM
theorem T.retN {fn : Func} {R : Value → List Asn → List Asn → Prop} {D0 M0 D' M' : List Asn} {e : Exit} (he : e = .ret ∨ e = .normal) (hr : fn.results = #[])
    (hR : R (.tuple #[]) D' M') (hD : SubD (D' ++ D0) D) (hM : Ent M (M' ++ M0)) : T (dset σ []) n (bPost P fn (RetPost (dset σ []) R D0 M0) e) K D M :=
  T.ret0 he (fun a w _ _ => results_none hr _ _ _) hR hD hM

/-! ### operations -/
variable {m : Option (List Asn × List Asn)} {ops : Array Oper} {l rest : List Oper} {d : Nat} {ty : TypeId} {pos : String} {aft : Array Edge}

theorem L.keep {K' : Env} (hK : SubK K' K) (h : TL m P σ n ops Q l K' D M) : TL m P σ n ops Q l K D M := by
  cases m with
  | none => exact T.keep hK h
  | some p => exact fun hp a s => h hp a (s.sub hK)
theorem L.norm {X Y D2 M2 : List Asn} (h1 : AppL X D D2) (h2 : AppL Y M M2) (h : TL m P σ n ops Q l K D2 M2) : TL m P σ n ops Q l K (X ++ D) (Y ++ M) := by subst h1; subst h2; exact h
theorem L.drop {M' : List Asn} (hM : Ent M M') (h : TL none P σ n ops Q l K D M') : TL none P σ n ops Q l K D M := T.drop hM h
theorem L.freeze {A : Asn} {N : List Asn} (hM : Pull A M N) (h : TL none P σ n ops Q l K (A :: D) N) : TL none P σ n ops Q l K D M := T.freeze hM h
theorem L.derive {φ ψ : Asn} (e : φ ∈ D) (i : ∀ z, φ z → ψ z) (h : TL m P σ n ops Q l K (ψ :: D) M) : TL m P σ n ops Q l K D M := by
  cases m with
  | none => exact T.derive e i h
  | some p => exact fun hp a s => h ⟨.skip hp.1, hp.2.1, fun w t => (hp.2.2 w t).derive e i⟩ a s
theorem L.deriveEx {α : Sort _} {φ : Asn} {ψ : α → Asn} (e : φ ∈ D) (i : ∀ z, φ z → ∃ x, ψ x z) (h : ∀ x, TL none P σ n ops Q l K (ψ x :: D) M) : TL none P σ n ops Q l K D M := T.deriveEx e i h
theorem L.fact {p : Prop} {φ : Asn} (e : φ ∈ D) (i : ∀ z, φ z → p) (h : p → TL none P σ n ops Q l K D M) : TL none P σ n ops Q l K D M := T.fact e i h
theorem L.pure {p : Prop} {A : Asn} (e : A ∈ M) (i : ∀ z, A z → p) (h : p → TL none P σ n ops Q l K D M) : TL none P σ n ops Q l K D M := T.pure e i h
theorem L.op {o : Oper} (hg : o.guard = none) (hc : ∀ a w, Slots σ n K a → Sat σ D M w → Calm o) (h : ∀ a w, Slots σ n K a → Sat σ D M w → ∀ K' : Act → World → Prop, (∀ a w, wpL P ops Q (yok σ) rest a w → K' a w) → o.wp P a w K' Q) : TL none P σ n ops Q (o :: rest) K D M :=
  fun a w s t => wpL.plain hg (hc a w s t) (fun K' hK' => h a w s t K' hK')
theorem calm_of {d : Option Nat} {op : Op} {ty : TypeId} {pos : String} {aft : Array Edge} {g : Option (Nat × Bool)} {ρ : Operand → Value} {w w' : World} {x : Next} (h : (execOp ρ ⟨d, op, ty, pos, aft, g⟩).run P w = .ok x w') (hx : ∀ d, x ≠ .defer d) : Calm ⟨d, op, ty, pos, aft, g⟩ := by
  rintro c hc
  subst hc
  simp only [execOp, Sem.run_bind] at h
  cases hr : (resolve ρ c ty).run P w with
  | ok y w1 => rw [hr] at h; simp [Result.andThen, Sem.run_pure] at h; exact hx _ h.1.symm
  | halt y w1 => rw [hr] at h; simp [Result.andThen] at h
theorem L.quiet {op : Op} {v : Value} (hd : Nat.blt d n = true)
    (h : ∀ a w, Slots σ n K a → Sat σ D M w → (execOp a.eval ⟨some d, op, ty, pos, aft, none⟩).run P w = .ok (.value v) w)
    (next : TL m P σ n ops Q rest ((d, v) :: K) D M) : TL m P σ n ops Q (⟨some d, op, ty, pos, aft, none⟩ :: rest) K D M := by
  cases m with
  | none =>
    exact L.op rfl (fun a w s t => calm_of (h a w s t) (fun _ h => by cases h)) fun a w s t K' hK' => by
      unfold Oper.wp
      rw [h a w s t]
      exact hK' _ _ (next _ _ (s.put v hd) t)
  | some p =>
    refine fun hp a s => ?_
    have hw : Region.wanted ⟨some d, op, ty, pos, aft, none⟩ (yielded ops a.tmps) = true := rfl
    unfold wpQuiet
    rw [hw, if_pos rfl]
    refine ⟨v, fun w t => ?_, next hp _ (s.put v hd)⟩
    unfold Oper.quietAt
    rw [h a w s (hp.2.2 w t)]
    exact ⟨rfl, rfl⟩
theorem L.val {op : Op} {v : Value} {D' M' : List Asn} (hd : Nat.blt d n = true)
    (h : ∀ a w, Slots σ n K a → Sat σ D M w → ∃ w', (execOp a.eval ⟨some d, op, ty, pos, aft, none⟩).run P w = .ok (.value v) w' ∧ Sat σ D' M' w')
    (next : TL none P σ n ops Q rest ((d, v) :: K) D' M') : TL none P σ n ops Q (⟨some d, op, ty, pos, aft, none⟩ :: rest) K D M :=
  L.op rfl (fun a w s t => let ⟨_, hr, _⟩ := h a w s t; calm_of hr (fun _ h => by cases h)) fun a w s t K' hK' => by
    obtain ⟨w', hr, hs⟩ := h a w s t
    unfold Oper.wp
    rw [hr]
    exact hK' _ _ (next _ _ (s.put v hd) hs)
theorem L.valEx {op : Op} (hd : Nat.blt d n = true) (R : Value → List Asn → List Asn → Prop)
    (h : ∀ a w, Slots σ n K a → Sat σ D M w → ∃ v D' M' w', (execOp a.eval ⟨some d, op, ty, pos, aft, none⟩).run P w = .ok (.value v) w' ∧ R v D' M' ∧ Sat σ D' M' w')
    (next : ∀ v D' M', R v D' M' → TL none P σ n ops Q rest ((d, v) :: K) D' M') : TL none P σ n ops Q (⟨some d, op, ty, pos, aft, none⟩ :: rest) K D M :=
  L.op rfl (fun a w s t => let ⟨_, _, _, _, hr, _⟩ := h a w s t; calm_of hr (fun _ h => by cases h)) fun a w s t K' hK' => by
    obtain ⟨v, D', M', w', hr, hR, hs⟩ := h a w s t
    unfold Oper.wp
    rw [hr]
    exact hK' _ _ (next v D' M' hR _ _ (s.put v hd) hs)
theorem L.eff {op : Op} {D' M' : List Asn}
    (h : ∀ a w, Slots σ n K a → Sat σ D M w → ∃ w', (execOp a.eval ⟨none, op, ty, pos, aft, none⟩).run P w = .ok .skip w' ∧ Sat σ D' M' w')
    (next : TL none P σ n ops Q rest K D' M') : TL none P σ n ops Q (⟨none, op, ty, pos, aft, none⟩ :: rest) K D M :=
  L.op rfl (fun a w s t => let ⟨_, hr, _⟩ := h a w s t; calm_of hr (fun _ h => by cases h)) fun a w s t K' hK' => by
    obtain ⟨w', hr, hs⟩ := h a w s t
    unfold Oper.wp
    rw [hr]
    exact hK' _ _ (next _ _ (s.put' _) hs)

theorem call_run {f : FuncId} {xs : List Operand} {ats : Array TypeId} {args : List Value} {g : Option (Nat × Bool)} {dst : Option Nat} {D0 M0 : List Asn} {R : Value → List Asn → List Asn → Prop} {a : Act} {w : World} (s : Slots σ n K a) (hx : evs K xs args) (hS : Spec P f args D0 M0 R) :
    (execOp a.eval ⟨dst, .call { callee := .value (.func f), args := xs.toArray, argTypes := ats }, ty, pos, aft, g⟩).run P w = .ok (.enter f args.toArray) w := by
  have h1 := hS.fn args.toArray w
  have h2 : xs.map a.eval = args := s.evals hx
  simp only [execOp, resolve, Deferred.ofValue, Act.eval, bind, pure, Sem.bind, invoke, List.map_toArray, h2, Array.empty_append, Array.append_empty]
  exact h1
theorem L.call {f : FuncId} {xs : List Operand} {ats : Array TypeId} {args : List Value} {D0 M0 F : List Asn} {R : Value → List Asn → List Asn → Prop} (hd : Nat.blt d n = true) (hx : evs K xs args) (hD : SubD D0 D) (hM : Sel M0 M F)
    (hS : Spec P f args D0 M0 R) (next : ∀ v D' M', R v D' M' → TL none P σ n ops Q rest ((d, v) :: K) (D' ++ D) (M' ++ F)) :
    TL none P σ n ops Q (⟨some d, .call { callee := .value (.func f), args := xs.toArray, argTypes := ats }, ty, pos, aft, none⟩ :: rest) K D M :=
  L.op rfl (fun _ _ _ _ c hc => by cases hc) fun a w s t K' hK' => by
    unfold Oper.wp
    rw [call_run s hx hS]
    refine (hS.run σ D F w ((t.facts (SubD.append hD (.refl _))).ent hM)).mono ?_
    rintro e w' ⟨v, D', M', rfl, hR, hs⟩
    exact hK' _ _ (next v D' M' hR _ _ (s.put v hd) hs)
theorem L.callQ {f : FuncId} {xs : List Operand} {ats : Array TypeId} {args : List Value} {D0 M0 F : List Asn} {R : Value → List Asn → List Asn → Prop} {v : Value} (hd : Nat.blt d n = true) (hx : evs K xs args) (hD : SubD D0 D) (hM : Sel M0 M F)
    (hS : Spec P f args D0 M0 R) (hR : ∀ u D' M', R u D' M' → u = v ∧ Ent (M' ++ F) M) (next : TL m P σ n ops Q rest ((d, v) :: K) D M) :
    TL m P σ n ops Q (⟨some d, .call { callee := .value (.func f), args := xs.toArray, argTypes := ats }, ty, pos, aft, none⟩ :: rest) K D M := by
  cases m with
  | none =>
    refine L.call hd hx hD hM hS fun u D' M' hu => ?_
    obtain ⟨rfl, e⟩ := hR u D' M' hu
    exact fun a w s t => next a w s ((t.facts (fun φ h => List.mem_append.2 (.inr h))).ent e)
  | some p =>
    refine fun hp a s => ?_
    have hw : Region.wanted ⟨some d, .call { callee := .value (.func f), args := xs.toArray, argTypes := ats }, ty, pos, aft, none⟩ (yielded ops a.tmps) = true := rfl
    unfold wpQuiet
    rw [hw, if_pos rfl]
    refine ⟨v, fun w t => ?_, next hp _ (s.put v hd)⟩
    unfold Oper.quietAt
    rw [call_run s hx hS]
    refine ⟨rfl, (hS.run σ D F w (((hp.2.2 w t).facts (SubD.append hD (.refl _))).ent hM)).mono ?_⟩
    rintro e w' ⟨u, D', M', rfl, hu, hs⟩
    obtain ⟨rfl, e⟩ := hR u D' M' hu
    obtain ⟨h1, rfl, _⟩ := hp
    exact ⟨rfl, (hs.facts (fun φ h => List.mem_append.2 (.inr (h1 φ h)))).ent e⟩
theorem L.callF {f : FuncId} {xs : List Operand} {ats : Array TypeId} {args : List Value} {D0 M0 F : List Asn} {R : Value → List Asn → List Asn → Prop} {v : Value} (hd : Nat.blt d n = true) (hx : evs K xs args) (hD : SubD D0 D) (hM : Sel M0 M F)
    (hS : Spec P f args D0 M0 R) (hR : ∀ u D' M', R u D' M' → u = v ∧ ∃ M2, AppL M' F M2 ∧ Ent M2 M) (next : TL m P σ n ops Q rest ((d, v) :: K) D M) :
    TL m P σ n ops Q (⟨some d, .call { callee := .value (.func f), args := xs.toArray, argTypes := ats }, ty, pos, aft, none⟩ :: rest) K D M :=
  L.callQ hd hx hD hM hS (fun u D' M' h => by obtain ⟨e, _, rfl, k⟩ := hR u D' M' h; exact ⟨e, k⟩) next

end
end Cv
namespace Cv
open Go

section
variable {P : Program} {σ : World} {n : Nat} {Q : Post} {K : Env} {D M : List Asn} {m : Option (List Asn × List Asn)} {ops : Array Oper} {rest : List Oper} {d : Nat} {ty : TypeId} {pos : String} {aft : Array Edge}

def Ev (K : Env) (ρ : Operand → Value) : Prop := ∀ {x v}, ev K x = some v → ρ x = v
theorem L.pureOp {op : Op} {v : Value} (hd : Nat.blt d n = true)
    (h : ∀ ρ w, Ev K ρ → (execOp ρ ⟨some d, op, ty, pos, aft, none⟩).run P w = .ok (.value v) w)
    (next : TL m P σ n ops Q rest ((d, v) :: K) D M) : TL m P σ n ops Q (⟨some d, op, ty, pos, aft, none⟩ :: rest) K D M :=
  L.quiet hd (fun a w s _ => h a.eval w (fun e => s.eval e)) next

/-! ### copies, tests -/
theorem L.move {x : Operand} {v : Value} (hd : Nat.blt d n = true) (hx : ev K x = some v) (next : TL m P σ n ops Q rest ((d, v) :: K) D M) :
    TL m P σ n ops Q (⟨some d, .move x, ty, pos, aft, none⟩ :: rest) K D M :=
  L.pureOp hd (fun ρ w s => by simp [execOp, s hx, go_sem]) next
theorem L.assign {x : Operand} {v : Value} (hd : Nat.blt d n = true) (hx : ev K x = some v) (next : TL m P σ n ops Q rest ((d, v) :: K) D M) :
    TL m P σ n ops Q (⟨some d, .assign x, ty, pos, aft, none⟩ :: rest) K D M :=
  L.pureOp hd (fun ρ w s => by simp [execOp, s hx, go_sem]) next
theorem L.pickT {c x y : Operand} {v : Value} (hd : Nat.blt d n = true) (hc : ev K c = some (.bool true)) (hx : ev K x = some v) (next : TL m P σ n ops Q rest ((d, v) :: K) D M) :
    TL m P σ n ops Q (⟨some d, .pick c x y, ty, pos, aft, none⟩ :: rest) K D M :=
  L.pureOp hd (fun ρ w s => by simp [execOp, s hx, s hc, asBool, go_sem]) next
theorem L.pickF {c x y : Operand} {v : Value} (hd : Nat.blt d n = true) (hc : ev K c = some (.bool false)) (hy : ev K y = some v) (next : TL m P σ n ops Q rest ((d, v) :: K) D M) :
    TL m P σ n ops Q (⟨some d, .pick c x y, ty, pos, aft, none⟩ :: rest) K D M :=
  L.pureOp hd (fun ρ w s => by simp [execOp, s hy, s hc, asBool, go_sem]) next
theorem L.notB {x : Operand} {t : TypeId} {b : Bool} (hd : Nat.blt d n = true) (hx : ev K x = some (.bool b)) (next : TL m P σ n ops Q rest ((d, .bool (!b)) :: K) D M) :
    TL m P σ n ops Q (⟨some d, .unOp .not t x, ty, pos, aft, none⟩ :: rest) K D M :=
  L.pureOp hd (fun ρ w s => by simp [execOp, s hx, Op.unary, go_sem]) next
theorem L.extract {x : Operand} {vs : List Value} {v : Value} {i : Nat} (hd : Nat.blt d n = true) (hx : ev K x = some (.tuple vs.toArray)) (hv : vs[i]? = some v) (next : TL m P σ n ops Q rest ((d, v) :: K) D M) :
    TL m P σ n ops Q (⟨some d, .extract x i, ty, pos, aft, none⟩ :: rest) K D M :=
  L.pureOp hd (fun ρ w s => by simp [execOp, s hx, Instr.extract, hv, go_sem]) next
theorem L.nilCheck {x : Operand} {p : Addr} (hd : Nat.blt d n = true) (hx : ev K x = some (.pointer (some p))) (next : TL m P σ n ops Q rest ((d, .pointer (some p)) :: K) D M) :
    TL m P σ n ops Q (⟨some d, .nilCheck x, ty, pos, aft, none⟩ :: rest) K D M :=
  L.pureOp hd (fun ρ w s => by simp [execOp, s hx, go_sem]) next

/-! ### guards -/
theorem yielded_of {a : Act} {j dj : Nat} {b : Bool} (s : Slots σ n K a) (hj : (ops[j]?).bind (·.dst) = some dj) (hb : get K dj = some (.bool b)) : yielded ops a.tmps j = some b := by
  have h := s.val dj _ hb
  have h2 : a.tmps[dj]? = some (.bool b) := by
    rw [Array.getD_eq_getD_getElem?] at h
    cases e : a.tmps[dj]? with
    | none => rw [e] at h; cases h
    | some v => rw [e] at h; simpa using h
  simp [yielded, hj, h2]
theorem wpQuiet_skip {C : World → Prop} {Qa : Act → Prop} {a : Act} {o : Oper} (hw : Region.wanted o (yielded ops a.tmps) = false) (h : wpQuiet P ops C Qa rest (a.put o.dst undef)) : wpQuiet P ops C Qa (o :: rest) a := by
  unfold wpQuiet
  rw [hw, if_neg (by simp)]
  exact h
theorem L.guardT {o : Oper} {j dj : Nat} {b : Bool} (hg : o.guard = some (j, b)) (hj : (ops[j]?).bind (·.dst) = some dj) (hb : get K dj = some (.bool b))
    (h : TL m P σ n ops Q ({ o with guard := none } :: rest) K D M) : TL m P σ n ops Q (o :: rest) K D M := by
  have e1 : ∀ a : Act, Region.wanted { o with guard := none } (yielded ops a.tmps) = true := fun _ => rfl
  have e2 : ∀ a : Act, Slots σ n K a → Region.wanted o (yielded ops a.tmps) = true := fun a s => by simp [Region.wanted, hg, yielded_of s hj hb]
  cases m with
  | none =>
    intro a w s t
    have h1 := h a w s t
    simp only [wpL] at h1 ⊢
    rw [e1, if_pos rfl] at h1
    rw [e2 a s, if_pos rfl]
    exact h1
  | some p =>
    refine fun hp a s => ?_
    have h1 := h hp a s
    unfold wpQuiet at h1 ⊢
    rw [e1, if_pos rfl] at h1
    rw [e2 a s, if_pos rfl]
    exact h1
theorem L.guardF {o : Oper} {j dj : Nat} {b c : Bool} (hg : o.guard = some (j, b)) (hdst : o.dst = some d) (hd : Nat.blt d n = true) (hj : (ops[j]?).bind (·.dst) = some dj) (hb : get K dj = some (.bool c)) (hne : c ≠ b)
    (h : TL m P σ n ops Q rest ((d, undef) :: K) D M) : TL m P σ n ops Q (o :: rest) K D M := by
  have e2 : ∀ a : Act, Slots σ n K a → Region.wanted o (yielded ops a.tmps) = false := fun a s => by simp [Region.wanted, hg, yielded_of s hj hb, hne]
  cases m with
  | none => exact fun a w s t => wpL.skip (e2 a s) (by rw [hdst]; exact h _ _ (s.put _ hd) t)
  | some p =>
    exact fun hp a s => wpQuiet_skip (e2 a s) (by rw [hdst]; exact h hp _ (s.put _ hd))
theorem L.part {l : List Oper} {t : Nat} {b : Bool} (hb : get K t = some (.bool b)) (h1 : b = true → TL m P σ n ops Q l ((t, .bool true) :: K) D M) (h2 : b = false → TL m P σ n ops Q l ((t, .bool false) :: K) D M) : TL m P σ n ops Q l K D M := by
  cases b with
  | true => exact L.keep (.cons hb (.refl _)) (h1 rfl)
  | false => exact L.keep (.cons hb (.refl _)) (h2 rfl)
theorem L.known {l : List Oper} {t : Nat} {v u : Value} (hb : get K t = some v) (e : v = u) (h : TL m P σ n ops Q l ((t, u) :: K) D M) : TL m P σ n ops Q l K D M := by
  subst e; exact L.keep (.cons hb (.refl _)) h
theorem T.known {G : Act → World → Prop} {t : Nat} {v u : Value} (hb : get K t = some v) (e : v = u) (h : T σ n G ((t, u) :: K) D M) : T σ n G K D M := by
  subst e; exact T.keep (.cons hb (.refl _)) h

/-! ### integers -/
section ints
variable {x y : Operand} {t t' : TypeId} {k : IntKind} {a b : Int}
theorem L.addI (hd : Nat.blt d n = true) (hx : ev K x = some (.int k a)) (hy : ev K y = some (.int k b)) (next : TL m P σ n ops Q rest ((d, .int k (k.wrap (a + b))) :: K) D M) :
    TL m P σ n ops Q (⟨some d, .binOp .add t x y t', ty, pos, aft, none⟩ :: rest) K D M :=
  L.pureOp hd (fun ρ w s => by simp [execOp, s hx, s hy, Op.intArith, go_sem]) next
theorem L.subI (hd : Nat.blt d n = true) (hx : ev K x = some (.int k a)) (hy : ev K y = some (.int k b)) (next : TL m P σ n ops Q rest ((d, .int k (k.wrap (a - b))) :: K) D M) :
    TL m P σ n ops Q (⟨some d, .binOp .sub t x y t', ty, pos, aft, none⟩ :: rest) K D M :=
  L.pureOp hd (fun ρ w s => by simp [execOp, s hx, s hy, Op.intArith, go_sem]) next
theorem L.mulI (hd : Nat.blt d n = true) (hx : ev K x = some (.int k a)) (hy : ev K y = some (.int k b)) (next : TL m P σ n ops Q rest ((d, .int k (k.wrap (a * b))) :: K) D M) :
    TL m P σ n ops Q (⟨some d, .binOp .mul t x y t', ty, pos, aft, none⟩ :: rest) K D M :=
  L.pureOp hd (fun ρ w s => by simp [execOp, s hx, s hy, Op.intArith, go_sem]) next
theorem wrap_i64 {z : Int} (h1 : -9223372036854775808 ≤ z) (h2 : z ≤ 9223372036854775807) : IntKind.i64.wrap z = z := IntWalk.i64_in _ ⟨h1, h2⟩
theorem L.addN {a b : Int} (hd : Nat.blt d n = true) (hx : ev K x = some (.int .i64 a)) (hy : ev K y = some (.int .i64 b)) (hw : -9223372036854775808 ≤ a + b ∧ a + b ≤ 9223372036854775807) (next : TL m P σ n ops Q rest ((d, .int .i64 (a + b)) :: K) D M) :
    TL m P σ n ops Q (⟨some d, .binOp .add t x y t', ty, pos, aft, none⟩ :: rest) K D M :=
  L.addI hd hx hy (by rw [wrap_i64 hw.1 hw.2]; exact next)
theorem L.subN {a b : Int} (hd : Nat.blt d n = true) (hx : ev K x = some (.int .i64 a)) (hy : ev K y = some (.int .i64 b)) (hw : -9223372036854775808 ≤ a - b ∧ a - b ≤ 9223372036854775807) (next : TL m P σ n ops Q rest ((d, .int .i64 (a - b)) :: K) D M) :
    TL m P σ n ops Q (⟨some d, .binOp .sub t x y t', ty, pos, aft, none⟩ :: rest) K D M :=
  L.subI hd hx hy (by rw [wrap_i64 hw.1 hw.2]; exact next)
theorem L.mulN {a b : Int} (hd : Nat.blt d n = true) (hx : ev K x = some (.int .i64 a)) (hy : ev K y = some (.int .i64 b)) (hw : -9223372036854775808 ≤ a * b ∧ a * b ≤ 9223372036854775807) (next : TL m P σ n ops Q rest ((d, .int .i64 (a * b)) :: K) D M) :
    TL m P σ n ops Q (⟨some d, .binOp .mul t x y t', ty, pos, aft, none⟩ :: rest) K D M :=
  L.mulI hd hx hy (by rw [wrap_i64 hw.1 hw.2]; exact next)
theorem L.quoI (hd : Nat.blt d n = true) (hx : ev K x = some (.int k a)) (hy : ev K y = some (.int k b)) (hb : b ≠ 0) (next : TL m P σ n ops Q rest ((d, .int k (k.wrap (a.tdiv b))) :: K) D M) :
    TL m P σ n ops Q (⟨some d, .binOp .quo t x y t', ty, pos, aft, none⟩ :: rest) K D M :=
  L.pureOp hd (fun ρ w s => by simp [execOp, s hx, s hy, Op.intDiv, hb, go_sem]) next
theorem L.quoN {a b : Int} (hd : Nat.blt d n = true) (hx : ev K x = some (.int .i64 a)) (hy : ev K y = some (.int .i64 b)) (hb : 0 ≤ a ∧ 0 < b ∧ a ≤ 9223372036854775807) (next : TL m P σ n ops Q rest ((d, .int .i64 (a / b)) :: K) D M) :
    TL m P σ n ops Q (⟨some d, .binOp .quo t x y t', ty, pos, aft, none⟩ :: rest) K D M :=
  L.quoI hd hx hy (by omega) (by
    have h1 : a.tdiv b = a / b := Int.tdiv_eq_ediv_of_nonneg hb.1
    have h2 : 0 ≤ a / b := Int.ediv_nonneg hb.1 (by omega)
    have h3 : a / b ≤ a := Int.ediv_le_self _ hb.1
    rw [h1, wrap_i64 (by omega) (by omega)]; exact next)
theorem L.remI (hd : Nat.blt d n = true) (hx : ev K x = some (.int k a)) (hy : ev K y = some (.int k b)) (hb : b ≠ 0) (next : TL m P σ n ops Q rest ((d, .int k (a.tmod b)) :: K) D M) :
    TL m P σ n ops Q (⟨some d, .binOp .rem t x y t', ty, pos, aft, none⟩ :: rest) K D M :=
  L.pureOp hd (fun ρ w s => by simp [execOp, s hx, s hy, Op.intDiv, hb, go_sem]) next
theorem L.remN {a b : Int} (hd : Nat.blt d n = true) (hx : ev K x = some (.int .i64 a)) (hy : ev K y = some (.int .i64 b)) (hb : 0 ≤ a ∧ 0 < b) (next : TL m P σ n ops Q rest ((d, .int .i64 (a % b)) :: K) D M) :
    TL m P σ n ops Q (⟨some d, .binOp .rem t x y t', ty, pos, aft, none⟩ :: rest) K D M :=
  L.remI hd hx hy (by omega) (by rw [Int.tmod_eq_emod_of_nonneg hb.1]; exact next)
def bitsAnd (k : IntKind) (a b : Int) : Int := k.wrap ((BitVec.ofInt k.bits a) &&& (BitVec.ofInt k.bits b)).toNat
def bitsOr (k : IntKind) (a b : Int) : Int := k.wrap ((BitVec.ofInt k.bits a) ||| (BitVec.ofInt k.bits b)).toNat
def bitsXor (k : IntKind) (a b : Int) : Int := k.wrap ((BitVec.ofInt k.bits a) ^^^ (BitVec.ofInt k.bits b)).toNat
theorem L.andI (hd : Nat.blt d n = true) (hx : ev K x = some (.int k a)) (hy : ev K y = some (.int k b)) (next : TL m P σ n ops Q rest ((d, .int k (bitsAnd k a b)) :: K) D M) :
    TL m P σ n ops Q (⟨some d, .binOp .and t x y t', ty, pos, aft, none⟩ :: rest) K D M :=
  L.pureOp hd (fun ρ w s => by simp only [execOp, s hx, s hy, eqGuard_and, binOp_and, Op.intBits]; rfl) next
theorem L.orI (hd : Nat.blt d n = true) (hx : ev K x = some (.int k a)) (hy : ev K y = some (.int k b)) (next : TL m P σ n ops Q rest ((d, .int k (bitsOr k a b)) :: K) D M) :
    TL m P σ n ops Q (⟨some d, .binOp .or t x y t', ty, pos, aft, none⟩ :: rest) K D M :=
  L.pureOp hd (fun ρ w s => by simp only [execOp, s hx, s hy, eqGuard_or, binOp_or, Op.intBits]; rfl) next
theorem L.xorI (hd : Nat.blt d n = true) (hx : ev K x = some (.int k a)) (hy : ev K y = some (.int k b)) (next : TL m P σ n ops Q rest ((d, .int k (bitsXor k a b)) :: K) D M) :
    TL m P σ n ops Q (⟨some d, .binOp .xor t x y t', ty, pos, aft, none⟩ :: rest) K D M :=
  L.pureOp hd (fun ρ w s => by simp only [execOp, s hx, s hy, eqGuard_xor, binOp_xor, Op.intBits]; rfl) next
theorem L.shlI {yk : IntKind} (hd : Nat.blt d n = true) (hx : ev K x = some (.int k a)) (hy : ev K y = some (.int yk b)) (hb : 0 ≤ b) (next : TL m P σ n ops Q rest ((d, .int k (k.wrap (a * 2 ^ (min b.toNat k.bits)))) :: K) D M) :
    TL m P σ n ops Q (⟨some d, .binOp .shl t x y t', ty, pos, aft, none⟩ :: rest) K D M :=
  L.pureOp hd (fun ρ w s => by simp [execOp, s hx, s hy, Op.shift, show ¬ b < 0 from by omega, go_sem]) next
theorem L.shrI {yk : IntKind} (hd : Nat.blt d n = true) (hx : ev K x = some (.int k a)) (hy : ev K y = some (.int yk b)) (hb : 0 ≤ b) (next : TL m P σ n ops Q rest ((d, .int k (a.fdiv (2 ^ (min b.toNat k.bits)))) :: K) D M) :
    TL m P σ n ops Q (⟨some d, .binOp .shr t x y t', ty, pos, aft, none⟩ :: rest) K D M :=
  L.pureOp hd (fun ρ w s => by simp [execOp, s hx, s hy, Op.shift, show ¬ b < 0 from by omega, go_sem]) next
theorem L.eqI (hd : Nat.blt d n = true) (hx : ev K x = some (.int k a)) (hy : ev K y = some (.int k b)) (next : TL m P σ n ops Q rest ((d, .bool (decide (a = b))) :: K) D M) :
    TL m P σ n ops Q (⟨some d, .binOp .eql t x y t', ty, pos, aft, none⟩ :: rest) K D M :=
  L.pureOp hd (fun ρ w s => by simp [execOp, s hx, s hy, go_sem]; rfl) next
theorem L.neI (hd : Nat.blt d n = true) (hx : ev K x = some (.int k a)) (hy : ev K y = some (.int k b)) (next : TL m P σ n ops Q rest ((d, .bool (decide (a ≠ b))) :: K) D M) :
    TL m P σ n ops Q (⟨some d, .binOp .neq t x y t', ty, pos, aft, none⟩ :: rest) K D M :=
  L.pureOp hd (fun ρ w s => by simp [execOp, s hx, s hy, go_sem]; rfl) next
theorem L.ltI (hd : Nat.blt d n = true) (hx : ev K x = some (.int k a)) (hy : ev K y = some (.int k b)) (next : TL m P σ n ops Q rest ((d, .bool (decide (a < b))) :: K) D M) :
    TL m P σ n ops Q (⟨some d, .binOp .lss t x y t', ty, pos, aft, none⟩ :: rest) K D M :=
  L.pureOp hd (fun ρ w s => by simp [execOp, s hx, s hy, go_sem]) next
theorem L.leI (hd : Nat.blt d n = true) (hx : ev K x = some (.int k a)) (hy : ev K y = some (.int k b)) (next : TL m P σ n ops Q rest ((d, .bool (decide (a ≤ b))) :: K) D M) :
    TL m P σ n ops Q (⟨some d, .binOp .leq t x y t', ty, pos, aft, none⟩ :: rest) K D M :=
  L.pureOp hd (fun ρ w s => by simp [execOp, s hx, s hy, go_sem]) next
theorem L.gtI (hd : Nat.blt d n = true) (hx : ev K x = some (.int k a)) (hy : ev K y = some (.int k b)) (next : TL m P σ n ops Q rest ((d, .bool (decide (b < a))) :: K) D M) :
    TL m P σ n ops Q (⟨some d, .binOp .gtr t x y t', ty, pos, aft, none⟩ :: rest) K D M :=
  L.pureOp hd (fun ρ w s => by simp [execOp, s hx, s hy, go_sem]) next
theorem L.geI (hd : Nat.blt d n = true) (hx : ev K x = some (.int k a)) (hy : ev K y = some (.int k b)) (next : TL m P σ n ops Q rest ((d, .bool (decide (b ≤ a))) :: K) D M) :
    TL m P σ n ops Q (⟨some d, .binOp .geq t x y t', ty, pos, aft, none⟩ :: rest) K D M :=
  L.pureOp hd (fun ρ w s => by simp [execOp, s hx, s hy, go_sem]) next
theorem L.maxI {ats : Array TypeId} (hd : Nat.blt d n = true) (hx : ev K x = some (.int k a)) (hy : ev K y = some (.int k b)) (next : TL m P σ n ops Q rest ((d, .int k (max a b)) :: K) D M) :
    TL m P σ n ops Q (⟨some d, .call { callee := .builtin .max, args := #[x, y], argTypes := ats }, ty, pos, aft, none⟩ :: rest) K D M :=
  L.pureOp hd (fun ρ w s => by
    have e : max a b = if b > a then b else a := by split <;> omega
    rw [e]
    simp [execOp, resolve, s hx, s hy, invoke, builtin, Builtin.max_, Builtin.max2, go_sem]) next
theorem L.minI {ats : Array TypeId} (hd : Nat.blt d n = true) (hx : ev K x = some (.int k a)) (hy : ev K y = some (.int k b)) (next : TL m P σ n ops Q rest ((d, .int k (min a b)) :: K) D M) :
    TL m P σ n ops Q (⟨some d, .call { callee := .builtin .min, args := #[x, y], argTypes := ats }, ty, pos, aft, none⟩ :: rest) K D M :=
  L.pureOp hd (fun ρ w s => by
    have e : min a b = if b < a then b else a := by split <;> omega
    rw [e]
    simp [execOp, resolve, s hx, s hy, invoke, builtin, Builtin.min_, Builtin.min2, go_sem]) next
end ints

/-! ### bools, pointers -/
theorem run_equal_nil {t e : TypeId} {a : Option Addr} (hU : P.underlying t = some (.pointer e)) (w : World) : (Op.equal t (.pointer a) (.pointer none)).run P w = .ok a.isNone w := by
  unfold Op.equal
  rw [show Op.maxDepth = 9999 + 1 from rfl, Op.equalIn]
  cases a <;> simp [run_underlying hU]
theorem L.eqlPtr {x y : Operand} {t t' e : TypeId} {a : Option Addr} (hd : Nat.blt d n = true) (hU : P.underlying t = some (.pointer e)) (hx : ev K x = some (.pointer a)) (hy : ev K y = some (.pointer none)) (next : TL m P σ n ops Q rest ((d, .bool a.isNone) :: K) D M) :
    TL m P σ n ops Q (⟨some d, .binOp .eql t x y t', ty, pos, aft, none⟩ :: rest) K D M :=
  L.pureOp hd (fun ρ w s => by
    have h1 := s hx
    have h2 := s hy
    have h3 := run_equal_nil (a := a) hU w
    simp only [execOp, h1, h2, eqGuard_at_pointer, binOp]
    simp [h3]) next
theorem L.neqPtr {x y : Operand} {t t' e : TypeId} {a : Option Addr} (hd : Nat.blt d n = true) (hU : P.underlying t = some (.pointer e)) (hx : ev K x = some (.pointer a)) (hy : ev K y = some (.pointer none)) (next : TL m P σ n ops Q rest ((d, .bool (!a.isNone)) :: K) D M) :
    TL m P σ n ops Q (⟨some d, .binOp .neq t x y t', ty, pos, aft, none⟩ :: rest) K D M :=
  L.pureOp hd (fun ρ w s => by
    have h1 := s hx
    have h2 := s hy
    have h3 := run_equal_nil (a := a) hU w
    simp only [execOp, h1, h2, eqGuard_at_pointer, binOp]
    simp [h3]) next
end
end Cv
namespace Cv
open Go

def cl (b : Nat) (t : TypeId) (cs : List Value) : Asn := pt b (.cells cs.toArray t (0, 0))
def rcs (b off : Nat) (vs : List Value) : Asn := fun h => ∃ c t m, h b = some (.cells c t m) ∧ ∀ i v, vs[i]? = some v → c[off + i]? = some v

def AtN (k : Nat) (cs : List Value) (off : Nat) (vs : List Value) : Prop := vs.length = k ∧ ∀ i v, vs[i]? = some v → cs[off + i]? = some v
theorem AtN.nil {cs : List Value} {off : Nat} : AtN 0 cs off [] := ⟨rfl, fun _ _ h => by simp at h⟩
theorem AtN.take {k : Nat} {c : Value} {cs vs : List Value} (h : AtN k cs 0 vs) : AtN (k + 1) (c :: cs) 0 (c :: vs) := ⟨by simp [h.1], fun i v hv => by
  cases i with
  | zero => simpa using hv
  | succ i => simp only [List.getElem?_cons_succ] at hv; have := h.2 i v hv; rw [Nat.zero_add] at this ⊢; simpa using this⟩
theorem AtN.skip {k off : Nat} {c : Value} {cs vs : List Value} (h : AtN k cs off vs) : AtN k (c :: cs) (off + 1) vs := ⟨h.1, fun i v hv => by
  have := h.2 i v hv
  rw [show off + 1 + i = (off + i) + 1 from by omega, List.getElem?_cons_succ]; exact this⟩
theorem AtN.all {k : Nat} {cs : List Value} (h : cs.length = k) : AtN k cs 0 cs := ⟨h, fun i v hv => by rw [Nat.zero_add]; exact hv⟩
theorem AtN.one {cs : List Value} {off : Nat} {v : Value} (h : cs[off]? = some v) : AtN 1 cs off [v] := ⟨rfl, fun i u hu => by
  cases i with
  | zero => simp at hu; subst hu; exact h
  | succ i => simp at hu⟩
theorem AtN.shift {k j off : Nat} {us cs vs : List Value} (hj : us.length = j) (h : AtN k cs off vs) : AtN k (us ++ cs) (j + off) vs := ⟨h.1, fun i v hv => by
  rw [show j + off + i = us.length + (off + i) from by omega, List.getElem?_append_right (by omega)]
  simpa using h.2 i v hv⟩
theorem AtN.left {k : Nat} {cs us : List Value} (hk : us.length = k) : AtN k (us ++ cs) 0 us := ⟨hk, fun i v hv => by
  rw [Nat.zero_add, List.getElem?_append_left (List.getElem?_eq_some_iff.1 hv).1]; exact hv⟩

def SetAt (cs : List Value) (off : Nat) (vs : List Value) (cs' : List Value) : Prop := off + vs.length ≤ cs.length ∧ cs' = cs.take off ++ vs ++ cs.drop (off + vs.length)
theorem SetAt.here {c v : Value} {cs : List Value} : SetAt (c :: cs) 0 [v] (v :: cs) := ⟨by simp, by simp⟩
theorem SetAt.there {c : Value} {cs vs cs' : List Value} {off : Nat} (h : SetAt cs off vs cs') : SetAt (c :: cs) (off + 1) vs (c :: cs') := ⟨by simp only [List.length_cons]; have := h.1; omega, by
  rw [h.2, show off + 1 + vs.length = (off + vs.length) + 1 from by omega]; simp⟩
theorem SetAt.whole {cs vs : List Value} (h : vs.length = cs.length) : SetAt cs 0 vs vs := ⟨by omega, by simp [h]⟩
theorem SetAt.more {c v : Value} {cs vs cs' : List Value} (h : SetAt cs 0 vs cs') : SetAt (c :: cs) 0 (v :: vs) (v :: cs') := ⟨by simp only [List.length_cons]; have := h.1; omega, by
  rw [h.2]; simp⟩
theorem SetAt.none {cs : List Value} : SetAt cs 0 [] cs := ⟨by simp, by simp⟩
theorem SetAt.set {cs : List Value} {off : Nat} {v : Value} (h : off < cs.length) : SetAt cs off [v] (cs.set off v) := ⟨by simp; omega, by
  rw [List.set_eq_take_append_cons_drop, if_pos h]; simp⟩
theorem SetAt.shift {j off : Nat} {us cs vs cs' : List Value} (hj : us.length = j) (h : SetAt cs off vs cs') : SetAt (us ++ cs) (j + off) vs (us ++ cs') := ⟨by simp only [List.length_append]; have := h.1; omega, by
  subst hj
  rw [h.2, List.take_length_add_append, show us.length + off + vs.length = us.length + (off + vs.length) from by omega, List.drop_length_add_append]; simp⟩
theorem SetAt.left {us cs vs : List Value} (h : vs.length = us.length) : SetAt (us ++ cs) 0 vs (vs ++ cs) := ⟨by simp; omega, by simp [h]⟩

def Sc (P : Program) (t : TypeId) : Prop := ∀ w, (isAgg t).run P w = .ok false w ∧ (Go.sizeOf t).run P w = .ok 1 w
def Ag (P : Program) (t : TypeId) (k : Nat) : Prop := ∀ w, (isAgg t).run P w = .ok true w ∧ (Go.sizeOf t).run P w = .ok k w
def Ze (P : Program) (t : TypeId) (zs : List Value) : Prop := ∃ z, z.cells = zs.toArray ∧ ∀ w, (zeroValue t).run P w = .ok z w
def Fo (P : Program) (s : TypeId) (f k : Nat) : Prop := ∀ a w, (Instr.fieldAt s (.pointer (some a)) f).run P w = .ok (.pointer (some (a.add k))) w

theorem add_lit (b o k : Nat) : (⟨b, o, none⟩ : Addr).add k = ⟨b, o + k, none⟩ := Addr.add_lit b o k
theorem cell_of {w : World} {b off : Nat} {c : Array Value} {t : TypeId} {m : Nat × Nat} (h : w.heap[b]? = some (.cells c t m)) : w.cell? ⟨b, off, none⟩ = c[off]? := by
  simp [World.cell?, h]

section
variable {P : Program} {σ : World} {n : Nat} {Q : Post} {K : Env} {D M : List Asn} {m : Option (List Asn × List Asn)} {ops : Array Oper} {rest : List Oper} {d : Nat} {ty : TypeId} {pos : String} {aft : Array Edge}

def CellsN (σ : World) (D M : List Asn) (b off k : Nat) (vs : List Value) : Prop := vs.length = k ∧ ∀ w, Sat σ D M w → ∃ c t m, w.heap[b]? = some (.cells c t m) ∧ ∀ i v, vs[i]? = some v → c[off + i]? = some v
theorem CellsN.ofM {b off k : Nat} {t : TypeId} {cs vs : List Value} (h : cl b t cs ∈ M) (a : AtN k cs off vs) : CellsN σ D M b off k vs := ⟨a.1, fun w s =>
  ⟨cs.toArray, t, (0, 0), s.block h, fun i v hv => by simpa using a.2 i v hv⟩⟩
theorem CellsN.ofF {b off k : Nat} {t : TypeId} {cs vs : List Value} (h : cl b t cs ∈ D) (a : AtN k cs off vs) : CellsN σ D M b off k vs := ⟨a.1, fun w s =>
  ⟨cs.toArray, t, (0, 0), s.blockD h, fun i v hv => by simpa using a.2 i v hv⟩⟩
theorem CellsN.ofD {b off k : Nat} {vs : List Value} (h : rcs b off vs ∈ D) (hl : vs.length = k) : CellsN σ D M b off k vs := ⟨hl, fun w s => by
  obtain ⟨y, l, c, t, m, hb, hv⟩ := s.fact h
  exact ⟨c, t, m, l _ _ hb, hv⟩⟩
def Cells (σ : World) (D M : List Asn) (b off : Nat) (vs : List Value) : Prop := ∀ w, Sat σ D M w → ∃ c t m, w.heap[b]? = some (.cells c t m) ∧ ∀ i v, vs[i]? = some v → c[off + i]? = some v
theorem Cells.ofM {b off k : Nat} {t : TypeId} {cs vs : List Value} (h : cl b t cs ∈ M) (a : AtN k cs off vs) : Cells σ D M b off vs := fun w s =>
  ⟨cs.toArray, t, (0, 0), s.block h, fun i v hv => by simpa using a.2 i v hv⟩
theorem Cells.ofF {b off k : Nat} {t : TypeId} {cs vs : List Value} (h : cl b t cs ∈ D) (a : AtN k cs off vs) : Cells σ D M b off vs := fun w s =>
  ⟨cs.toArray, t, (0, 0), s.blockD h, fun i v hv => by simpa using a.2 i v hv⟩
theorem Cells.ofD {b off : Nat} {vs : List Value} (h : rcs b off vs ∈ D) : Cells σ D M b off vs := fun w s => by
  obtain ⟨y, l, c, t, m, hb, hv⟩ := s.fact h
  exact ⟨c, t, m, l _ _ hb, hv⟩
theorem Cells.ofDs {b off o k : Nat} {us vs : List Value} (h : rcs b o us ∈ D) (a : AtN k us off vs) : Cells σ D M b (o + off) vs := fun w s => by
  obtain ⟨y, l, c, t, m, hb, hv⟩ := s.fact h
  exact ⟨c, t, m, l _ _ hb, fun i v e => by rw [Nat.add_assoc]; exact hv _ _ (a.2 i v e)⟩
theorem CellsN.ofDs {b off o k : Nat} {us vs : List Value} (h : rcs b o us ∈ D) (a : AtN k us off vs) : CellsN σ D M b (o + off) k vs := ⟨a.1, fun w s => by
  obtain ⟨y, l, c, t, m, hb, hv⟩ := s.fact h
  exact ⟨c, t, m, l _ _ hb, fun i v e => by rw [Nat.add_assoc]; exact hv _ _ (a.2 i v e)⟩⟩
theorem Cells.sub {b off k j : Nat} {us vs : List Value} (h : Cells σ D M b off us) (a : AtN k us j vs) : Cells σ D M b (off + j) vs := fun w s => by
  obtain ⟨c, t, m, hb, hv⟩ := h w s
  exact ⟨c, t, m, hb, fun i v e => by rw [Nat.add_assoc]; exact hv _ _ (a.2 i v e)⟩

theorem L.load {t : TypeId} {x : Operand} {b off : Nat} {v : Value} (hd : Nat.blt d n = true) (hS : Sc P t) (hx : ev K x = some (.pointer (some ⟨b, off, none⟩))) (hc : Cells σ D M b off [v])
    (next : TL m P σ n ops Q rest ((d, v) :: K) D M) : TL m P σ n ops Q (⟨some d, .load t x, ty, pos, aft, none⟩ :: rest) K D M :=
  L.quiet hd (fun a w s ss => by
    obtain ⟨c, t', m, hb, hv⟩ := hc w ss
    have h1 : w.cell? ⟨b, off, none⟩ = some v := by rw [cell_of hb]; exact hv 0 v rfl
    have e : a.eval x = _ := s.eval hx
    simp only [execOp, e]
    have h2 := (hS w).1
    simp [Instr.loadAt, Instr.sureAddr, loadVar, h2, load, h1, Sem.run]) next
theorem L.loadA {t : TypeId} {x : Operand} {b off k : Nat} {vs : List Value} (hd : Nat.blt d n = true) (hS : Ag P t k) (hx : ev K x = some (.pointer (some ⟨b, off, none⟩))) (hc : CellsN σ D M b off k vs)
    (next : TL m P σ n ops Q rest ((d, .agg vs.toArray) :: K) D M) : TL m P σ n ops Q (⟨some d, .load t x, ty, pos, aft, none⟩ :: rest) K D M :=
  L.quiet hd (fun a w s ss => by
    obtain ⟨hl, hc⟩ := hc
    obtain ⟨c, t', m, hb, hv⟩ := hc w ss
    have h1 : (loadCells ⟨b, off, none⟩ vs.length).run P w = .ok vs.toArray w := run_loadCells_list (P := P) w _ vs (fun j v e => by rw [add_lit, cell_of hb]; exact hv j v e)
    have e : a.eval x = _ := s.eval hx
    simp only [execOp, e]
    have h2 := (hS w).1
    have h3 := (hS w).2
    subst hl
    simp [Instr.loadAt, Instr.sureAddr, loadVar, h2, h3, h1]) next

theorem setRow_setB {w : World} {b : Nat} {c c' : Array Value} {t : TypeId} {m : Nat × Nat} (h : w.heap[b]? = some (.cells c t m)) : w.setRow b c' = setB w b (.cells c' t m) := by
  have hlt : b < w.heap.size := (Array.getElem?_eq_some_iff.1 h).1
  have hv : w.heap[b] = .cells c t m := (Array.getElem?_eq_some_iff.1 h).2
  unfold World.setRow setB
  congr 1
  apply Array.ext
  · simp
  · intro k h1 h2
    simp only [Array.getElem_modify]
    split
    · rename_i hk; subst hk; simp [hv]
    · rename_i hk; rw [Array.getElem_setIfInBounds (by simpa using h2)]; simp [hk]
theorem run_storeAt {t : TypeId} {w : World} {b off k : Nat} {cs vs cs' : List Value} {tb : TypeId} {v : Value} (hz : ∀ w, (Go.sizeOf t).run P w = .ok k w) (hv : v.cells = vs.toArray) (hk : vs.length = k) (h1 : ∀ u ∈ vs, u.oneCell' = true)
    (hb : w.heap[b]? = some (.cells cs.toArray tb (0, 0))) (hs : SetAt cs off vs cs') : (Instr.storeAt t (.pointer (some ⟨b, off, none⟩)) v).run P w = .ok () (setB w b (.cells cs'.toArray tb (0, 0))) := by
  have h2 := run_storeCells_at P b off tb vs 0 cs.toArray w hb (by simpa using hs.1) h1
  simp only [Nat.add_zero] at h2
  have h3 : v.cells.toList = vs := by rw [hv]
  have h4 : v.cells.size = k := by rw [hv]; simpa using hk
  have h5 := hz w
  simp [Instr.storeAt, Instr.sureAddr, storeVar, h5, h4, h3, h2]
  rw [setRow_setB hb, hs.2]
  simp
theorem L.store {t tb : TypeId} {x y : Operand} {b off : Nat} {v : Value} {cs cs' : List Value} {M' : List Asn} (hS : Sc P t) (hx : ev K x = some (.pointer (some ⟨b, off, none⟩))) (hy : ev K y = some v) (h1 : v.oneCell' = true)
    (hu : Upd (cl b tb cs) (cl b tb cs') M M') (hs : SetAt cs off [v] cs') (next : TL none P σ n ops Q rest K D M') : TL none P σ n ops Q (⟨none, .store t x y, ty, pos, aft, none⟩ :: rest) K D M :=
  L.eff (fun a w s ss => by
    obtain ⟨O, e1, e2⟩ := hu
    have hb := (ss.ent e1).block (.head _)
    have hv : v.cells = [v].toArray := by cases v <;> first | rfl | cases h1
    have hr := run_storeAt (P := P) (t := t) (fun w => (hS w).2) hv rfl (by simpa using h1) hb hs
    refine ⟨_, ?_, ss.setB (o' := .cells cs'.toArray tb (0, 0)) ⟨O, e1, e2⟩⟩
    have ex : a.eval x = _ := s.eval hx
    have ey : a.eval y = _ := s.eval hy
    simp only [execOp, ex, ey]
    simp [hr]) next
theorem L.storeA {t tb : TypeId} {x y : Operand} {b off k : Nat} {vs cs cs' : List Value} {M' : List Asn} (hS : Ag P t k) (hx : ev K x = some (.pointer (some ⟨b, off, none⟩))) (hy : ev K y = some (.agg vs.toArray)) (hk : vs.length = k) (h1 : ∀ u ∈ vs, u.oneCell' = true)
    (hu : Upd (cl b tb cs) (cl b tb cs') M M') (hs : SetAt cs off vs cs') (next : TL none P σ n ops Q rest K D M') : TL none P σ n ops Q (⟨none, .store t x y, ty, pos, aft, none⟩ :: rest) K D M :=
  L.eff (fun a w s ss => by
    obtain ⟨O, e1, e2⟩ := hu
    have hb := (ss.ent e1).block (.head _)
    have hr := run_storeAt (P := P) (t := t) (fun w => (hS w).2) (v := .agg vs.toArray) rfl hk h1 hb hs
    refine ⟨_, ?_, ss.setB (o' := .cells cs'.toArray tb (0, 0)) ⟨O, e1, e2⟩⟩
    have ex : a.eval x = _ := s.eval hx
    have ey : a.eval y = _ := s.eval hy
    simp only [execOp, ex, ey]
    simp [hr]) next

/-! ### new blocks -/
theorem L.alloc {t : TypeId} {zs : List Value} (hd : Nat.blt d n = true) (hz : Ze P t zs) (next : ∀ b, TL none P σ n ops Q rest ((d, .pointer (some ⟨b, 0, none⟩)) :: K) D (cl b t zs :: M)) :
    TL none P σ n ops Q (⟨some d, .alloc t, ty, pos, aft, none⟩ :: rest) K D M :=
  L.valEx hd (fun v D' M' => ∃ b, v = .pointer (some ⟨b, 0, none⟩) ∧ D' = D ∧ M' = cl b t zs :: M) (fun a w s ss => by
    obtain ⟨z, hz1, hz2⟩ := hz
    refine ⟨_, _, _, w.alloc (.cells z.cells t), ?_, ⟨w.heap.size, rfl, rfl, rfl⟩, ?_⟩
    · simp [execOp, Instr.alloc, hz2, newVar, newRow]
    · rw [hz1]; exact ss.alloc _) (fun v D' M' ⟨b, e1, e2, e3⟩ => by subst e1; subst e2; subst e3; exact next b)
theorem L.box {t : TypeId} {x : Operand} {v : Value} {cs : List Value} (hd : Nat.blt d n = true) (hx : ev K x = some v) (hc : v.cells = cs.toArray) (next : ∀ b, TL none P σ n ops Q rest ((d, .pointer (some ⟨b, 0, none⟩)) :: K) D (cl b t cs :: M)) :
    TL none P σ n ops Q (⟨some d, .box t x, ty, pos, aft, none⟩ :: rest) K D M :=
  L.valEx hd (fun v D' M' => ∃ b, v = .pointer (some ⟨b, 0, none⟩) ∧ D' = D ∧ M' = cl b t cs :: M) (fun a w s ss => by
    refine ⟨_, _, _, w.alloc (.cells v.cells t), ?_, ⟨w.heap.size, rfl, rfl, rfl⟩, ?_⟩
    · have ex : a.eval x = _ := s.eval hx
      simp only [execOp, ex]
      simp [Instr.box, newVar, newRow]
    · rw [hc]; exact ss.alloc _) (fun v D' M' ⟨b, e1, e2, e3⟩ => by subst e1; subst e2; subst e3; exact next b)

def BP (place : Nat → Option (Nat × Nat)) (K : Env) (pos : Nat) (zs : List Value) (parts : List (Nat × Operand)) (cs : List Value) : Prop :=
  ∀ ρ, Ev K ρ → ∀ pre : List Value, pre.length = pos → Instr.fill place (pre ++ zs).toArray (parts.map fun p => (p.1, ρ p.2)) = some (pre ++ cs).toArray
theorem BP.done {place : Nat → Option (Nat × Nat)} {pos : Nat} {zs : List Value} : BP place K pos zs [] zs := fun ρ _ pre _ => by simp [Instr.fill]
theorem BP.doneE {place : Nat → Option (Nat × Nat)} {pos : Nat} {zs out : List Value} (h : zs = out) : BP place K pos zs [] out := h ▸ BP.done
theorem BP.one {place : Nat → Option (Nat × Nat)} {pos i : Nat} {z v : Value} {zs cs : List Value} {x : Operand} {ps : List (Nat × Operand)} (hp : place i = some (pos, 1)) (hx : ev K x = some v) (h1 : v.oneCell' = true)
    (h : BP place K (pos + 1) zs ps cs) : BP place K pos (z :: zs) ((i, x) :: ps) (v :: cs) := fun ρ hρ pre hpre => by
  have hv : v.cells = #[v] := by cases v <;> first | rfl | cases h1
  have := h ρ hρ (pre ++ [v]) (by simp [hpre])
  simp only [List.append_assoc, List.cons_append, List.nil_append] at this
  simp only [List.map_cons, Instr.fill, hp, hρ hx, hv]
  simp only [List.size_toArray, List.length_append, List.length_cons, List.length_nil]
  rw [if_neg (by simp; omega)]
  have e : (pre ++ z :: zs).toArray.setIfInBounds pos v = (pre ++ v :: zs).toArray := by
    subst hpre; simp
  simpa [e] using this
theorem BP.skip {place : Nat → Option (Nat × Nat)} {pos : Nat} {z : Value} {zs cs : List Value} {ps : List (Nat × Operand)}
    (h : BP place K (pos + 1) zs ps cs) : BP place K pos (z :: zs) ps (z :: cs) := fun ρ hρ pre hpre => by
  have := h ρ hρ (pre ++ [z]) (by simp [hpre])
  simpa using this
theorem foldl_fill (l : List Value) : ∀ (pos : Nat) (cs : List Value), pos + l.length ≤ cs.length →
    (l.toArray.zipIdx).foldl (fun cs (p : Value × Nat) => cs.setIfInBounds (pos + p.2) p.1) cs.toArray = (cs.take pos ++ l ++ cs.drop (pos + l.length)).toArray := by
  have key : ∀ (l : List Value) (k pos : Nat) (cs : List Value), pos + k + l.length ≤ cs.length →
      (l.zipIdx k).foldl (fun cs (p : Value × Nat) => cs.setIfInBounds (pos + p.2) p.1) cs.toArray = (cs.take (pos + k) ++ l ++ cs.drop (pos + k + l.length)).toArray := by
    intro l
    induction l with
    | nil => intro k pos cs _; simp
    | cons v l ih =>
      intro k pos cs hl
      simp only [List.zipIdx_cons, List.foldl_cons, List.setIfInBounds_toArray]
      rw [ih (k + 1) pos (cs.set (pos + k) v) (by simp at hl ⊢; omega)]
      congr 1
      have := list_seg_step cs (pos + k) v l (by simp at hl; omega)
      simpa [Nat.add_assoc, Nat.add_comm 1] using this
  intro pos cs hl
  have := key l 0 pos cs (by simpa using hl)
  simpa using this
theorem fill_cons {place : Nat → Option (Nat × Nat)} {cells : Array Value} {i off size : Nat} {v : Value} {ps : List (Nat × Value)} (hp : place i = some (off, size)) (h1 : v.cells.size = size) (h2 : off + v.cells.size ≤ cells.size) :
    Instr.fill place cells ((i, v) :: ps) = Instr.fill place (v.cells.zipIdx.foldl (fun cs (p : Value × Nat) => cs.setIfInBounds (off + p.2) p.1) cells) ps := by
  rw [Instr.fill]
  simp only [hp]
  rw [if_neg (by simp [h1]; omega)]
theorem BP.agg {place : Nat → Option (Nat × Nat)} {pos i k : Nat} {us zs cs : List Value} {x : Operand} {ps : List (Nat × Operand)} (hp : place i = some (pos, k)) (hx : ev K x = some (.agg us.toArray)) (hk : us.length = k) (hz : k ≤ zs.length) {out : List Value} (ha : AppL us cs out)
    (h : BP place K (pos + k) (zs.drop k) ps cs) : BP place K pos zs ((i, x) :: ps) out := fun ρ hρ pre hpre => by
  rw [← ha]
  have := h ρ hρ (pre ++ us) (by simp [hpre, hk])
  simp only [List.map_cons, hρ hx]
  rw [fill_cons hp (by simpa [Value.cells] using hk) (by simp [Value.cells]; omega)]
  have e := foldl_fill us pos (pre ++ zs) (by simp; omega)
  rw [show (Value.agg us.toArray).cells.zipIdx.foldl (fun cs (p : Value × Nat) => cs.setIfInBounds (pos + p.2) p.1) (pre ++ zs).toArray = _ from e]
  subst hpre
  subst hk
  have e2 : List.drop (pre.length + us.length) pre = [] := List.drop_eq_nil_of_le (by omega)
  simpa [List.drop_append, e2] using this

def Bu (P : Program) (t : TypeId) (zs : List Value) (place : Nat → Option (Nat × Nat)) : Prop := ∀ parts w cs, Instr.fill place zs.toArray parts.toList = some cs → (Instr.build t parts).run P w = .ok (.agg cs) w
theorem L.build {t : TypeId} {zs cs : List Value} {place : Nat → Option (Nat × Nat)} {ps : List (Nat × Operand)} (hd : Nat.blt d n = true) (hB : Bu P t zs place) (hp : BP place K 0 zs ps cs)
    (next : TL m P σ n ops Q rest ((d, .agg cs.toArray) :: K) D M) : TL m P σ n ops Q (⟨some d, .build t ps.toArray, ty, pos, aft, none⟩ :: rest) K D M :=
  L.pureOp hd (fun ρ w s => by
    have h1 := hp ρ s [] rfl
    have h2 := hB (ps.map fun p => (p.1, ρ p.2)).toArray w cs.toArray (by simpa using h1)
    simp only [execOp, List.map_toArray]
    simp only [Sem.run_bind, h2]
    rfl) next

def Bs (P : Program) (t e : TypeId) (k : Nat) (zs : List Value) : Prop := ∀ len parts w cs, len * k ≤ 16777216 → Instr.fill (fun i => some (i * k, k)) ((List.replicate len zs).flatten).toArray parts.toList = some cs →
  (Instr.buildSlice t len parts).run P w = .ok (.slice (some ⟨w.heap.size, 0, none⟩) len len) (w.alloc (.cells cs e))
theorem L.buildSlice {t e : TypeId} {k len : Nat} {zs cs : List Value} {ps : List (Nat × Operand)} (hd : Nat.blt d n = true) (hB : Bs P t e k zs) (hl : len * k ≤ 16777216) (hp : BP (fun i => some (i * k, k)) K 0 ((List.replicate len zs).flatten) ps cs)
    (next : ∀ b, TL none P σ n ops Q rest ((d, .slice (some ⟨b, 0, none⟩) len len) :: K) D (cl b e cs :: M)) : TL none P σ n ops Q (⟨some d, .buildSlice t len ps.toArray, ty, pos, aft, none⟩ :: rest) K D M :=
  L.valEx hd (fun v D' M' => ∃ b, v = .slice (some ⟨b, 0, none⟩) len len ∧ D' = D ∧ M' = cl b e cs :: M) (fun a w s ss => by
    have h1 := hp a.eval (fun e => s.eval e) [] rfl
    have h2 := hB len (ps.map fun p => (p.1, a.eval p.2)).toArray w cs.toArray hl (by simpa using h1)
    refine ⟨_, _, _, w.alloc (.cells cs.toArray e), ?_, ⟨w.heap.size, rfl, rfl, rfl⟩, ss.alloc _⟩
    simp only [execOp, List.map_toArray]
    simp only [Sem.run_bind, h2]
    rfl) (fun v D' M' ⟨b, e1, e2, e3⟩ => by subst e1; subst e2; subst e3; exact next b)

/-! ### places -/
theorem L.field {s : TypeId} {x : Operand} {f k b o : Nat} (hd : Nat.blt d n = true) (hF : Fo P s f k) (hx : ev K x = some (.pointer (some ⟨b, o, none⟩))) (next : TL m P σ n ops Q rest ((d, .pointer (some ⟨b, o + k, none⟩)) :: K) D M) :
    TL m P σ n ops Q (⟨some d, .fieldAddr s x f, ty, pos, aft, none⟩ :: rest) K D M :=
  L.pureOp hd (fun ρ w s => by
    have := hF ⟨b, o, none⟩ w
    rw [add_lit] at this
    simp only [execOp, s hx]
    simp [this]) next
/-! ### results that lie in a cell -/
theorem T.retA {fn : Func} {t k : Nat} {tt : TypeId} {b off : Nat} {R : Value → List Asn → List Asn → Prop} {D0 M0 D' M' : List Asn} {vs : List Value} (hr : fn.results = #[.cell t tt]) (hS : Ag P tt k) (hx : get K t = some (.pointer (some ⟨b, off, none⟩))) (hc : CellsN (dset σ []) D M b off k vs)
    (hR : R (.agg vs.toArray) D' M') (hD : SubD (D' ++ D0) D) (hM : Ent M (M' ++ M0)) : T (dset σ []) n (bPost P fn (RetPost (dset σ []) R D0 M0) .ret) K D M :=
  T.ret0 (.inl rfl) (fun a w s ss => by
    obtain ⟨hl, hc⟩ := hc
    obtain ⟨c, t', m, hb, hv⟩ := hc w ss
    have h1 : (loadCells ⟨b, off, none⟩ vs.length).run P w = .ok vs.toArray w := run_loadCells_list (P := P) w _ vs (fun j v e => by rw [add_lit, cell_of hb]; exact hv j v e)
    have h2 := (hS w).1
    have h4 := (hS w).2
    have h3 := s.val t _ hx
    rw [Array.getD_eq_getD_getElem?] at h3
    subst hl
    simp [results, hr, h3, asAddr, loadVar, h2, h4, h1]) hR hD hM
theorem One.nil : ∀ u ∈ ([] : List Value), u.oneCell' = true := by simp
theorem One.cons {v : Value} {vs : List Value} (h : v.oneCell' = true) (k : ∀ u ∈ vs, u.oneCell' = true) : ∀ u ∈ v :: vs, u.oneCell' = true := by
  intro u hu
  rcases List.mem_cons.1 hu with rfl | hu
  · exact h
  · exact k u hu
end
end Cv
namespace Cv
open Go
section
variable {P : Program} {ops : Array Oper} {Q : Post} {S0 S : World → Prop} {hd : Nat → Nat}
def wpG (P : Program) (ops : Array Oper) (Q : Post) (S0 S : World → Prop) (hd : Nat → Nat) : Nat → Array Bool → Act → World → Prop
  | 0, listed, a, w => Region.ready .any ops listed = [] ∧ Q .normal a w
  | fuel + 1, listed, a, w =>
    (Region.ready .any ops listed = [] → Q .normal a w) ∧
    ∀ i ∈ Region.ready .any ops listed, wpOp P ops Q i (fun a' w' => S0 w' ∧ (hd i = 0 → S w') ∧ (hd i = 1 → S w → S w') ∧ wpG P ops Q S0 S hd fuel (listed.setIfInBounds i true) a' w') a w
theorem wpG.any : ∀ (fuel : Nat) (listed : Array Bool) (a : Act) (w : World), wpG P ops Q S0 S hd fuel listed a w → wpAny P .any ops Q fuel listed a w
  | 0, _, _, _, h => h
  | fuel + 1, _, _, _, h => ⟨h.1, fun i hi => wpOp_mono (fun a' w' h' => wpG.any fuel _ a' w' h'.2.2.2) (h.2 i hi)⟩
def addE : List Edge → Array Bool → Array Bool
  | [], S => S
  | e :: es, S => addE es (if Region.binds .any e then S.setIfInBounds e.on true else S)
def sweep (ops : Array Oper) : List Nat → Array Bool → Array Bool
  | [], S => S
  | j :: js, S => sweep ops js (if S.getD j false then (match ops[j]? with | some o => addE o.after.toList S | none => S) else S)
def waits (ops : Array Oper) (t : Nat) : Array Bool :=
  match ops[t]? with
  | some o => let r := (List.range ops.size).reverse; sweep ops r (sweep ops r (addE o.after.toList (Array.replicate ops.size false)))
  | none => Array.replicate ops.size false
def clsL (l : List Nat) (i : Nat) : Nat := l.getD i 0
def tailB (ops : Array Oper) (hd : Nat → Nat) (listed : Array Bool) : Bool := (List.range ops.size).all fun t => Nat.ble (hd t) 1 || listed.getD t true || (let S := waits ops t; (List.range ops.size).all fun i => Nat.ble 1 (hd i) || listed.getD i false || S.getD i false)
def closedB (ops : Array Oper) (listed : Array Bool) : Bool := (List.range ops.size).all fun j => !listed.getD j false || match ops[j]? with | some o => o.after.all (fun e => !Region.binds .any e || listed.getD e.on false) | none => true
def Closed (ops : Array Oper) (listed : Array Bool) : Prop := ∀ (j : Nat) (o : Oper), ops[j]? = some o → listed.getD j false = true → ∀ e ∈ o.after, Region.binds .any e = true → listed.getD e.on false = true
theorem closedB_spec {listed : Array Bool} (h : closedB ops listed = true) : Closed ops listed := fun j o ho hl e he hb => by
  have hlt : j < ops.size := (Array.getElem?_eq_some_iff.1 ho).1
  have h1 := List.all_eq_true.1 h j (List.mem_range.2 hlt)
  simp only [hl, ho, Bool.not_true, Bool.false_or] at h1
  have h2 := (Array.all_eq_true_iff_forall_mem.1 h1) e he
  simpa [hb] using h2
theorem Closed.set {listed : Array Bool} {j : Nat} (h : Closed ops listed) (hj : j ∈ Region.ready .any ops listed) : Closed ops (listed.setIfInBounds j true) := fun k o ho hl e he hb => by
  by_cases e1 : j = k
  · subst e1
    obtain ⟨_, o', ho', hall⟩ := mem_ready.1 hj
    rw [ho] at ho'; cases ho'
    exact getD_set_true (hall e he hb)
  · rw [getD_set_ne false e1] at hl
    exact getD_set_true (h k o ho hl e he hb)
def Within (S listed : Array Bool) : Prop := ∀ i, S.getD i false = true → listed.getD i false = true
theorem addE_within {listed : Array Bool} : ∀ (es : List Edge) (S : Array Bool), Within S listed → (∀ e ∈ es, Region.binds .any e = true → listed.getD e.on false = true) → Within (addE es S) listed
  | [], S, h, _ => h
  | e :: es, S, h, k => by
    refine addE_within es _ ?_ (fun e' he' => k e' (by simp [he']))
    split
    · rename_i hb
      intro i hi
      by_cases e1 : e.on = i
      · subst e1; exact k e (by simp) hb
      · rw [getD_set_ne false e1] at hi; exact h i hi
    · exact h
theorem sweep_within {listed : Array Bool} (hc : Closed ops listed) : ∀ (js : List Nat) (S : Array Bool), Within S listed → Within (sweep ops js S) listed
  | [], S, h => h
  | j :: js, S, h => by
    refine sweep_within hc js _ ?_
    split
    · rename_i hj
      split
      · rename_i o ho
        exact addE_within _ _ h (fun e he hb => hc j o ho (h j hj) e (Array.mem_toList_iff.1 he) hb)
      · exact h
    · exact h
theorem waits_listed {listed : Array Bool} (hc : Closed ops listed) {t : Nat} (hd : ∀ o, ops[t]? = some o → ∀ e ∈ o.after, Region.binds .any e = true → listed.getD e.on false = true) : Within (waits ops t) listed := by
  have h0 : Within (Array.replicate ops.size false) listed := fun i hi => by
    exfalso
    simp only [Array.getD_eq_getD_getElem?, Array.getElem?_replicate] at hi
    split at hi <;> simp at hi
  unfold waits
  cases ho : ops[t]? with
  | none => exact h0
  | some o => exact sweep_within hc _ _ (sweep_within hc _ _ (addE_within _ _ h0 (fun e he hb => hd o ho e (Array.mem_toList_iff.1 he) hb)))
theorem tailB_set {listed : Array Bool} {j : Nat} (h : tailB ops hd listed = true) : tailB ops hd (listed.setIfInBounds j true) = true := by
  unfold tailB at *
  rw [List.all_eq_true] at *
  intro t ht
  have := h t ht
  simp only [Bool.or_eq_true] at this ⊢
  rcases this with (h1 | h1) | h1
  · exact .inl (.inl h1)
  · left; right
    by_cases e : j = t
    · subst e
      by_cases hl : j < listed.size
      · simp [hl]
      · simp [hl]
    · rw [getD_set_ne true e]; exact h1
  · right
    rw [List.all_eq_true] at *
    intro i hi
    have h2 := h1 i hi
    simp only [Bool.or_eq_true] at h2 ⊢
    rcases h2 with (h3 | h3) | h3
    · exact .inl (.inl h3)
    · exact .inl (.inr (getD_set_true h3))
    · exact .inr h3
theorem tailB_spec {listed : Array Bool} (h : tailB ops hd listed = true) {t i : Nat} (ht : 2 ≤ hd t) (hi : hd i = 0) (hlt' : i < ops.size) (hc : Closed ops listed) (hun : listed.getD i false = false) : t ∉ Region.ready .any ops listed := fun hr => by
  obtain ⟨hu, o, ho, hall⟩ := mem_ready.1 hr
  have hlt : t < ops.size := (Array.getElem?_eq_some_iff.1 ho).1
  have h1 := List.all_eq_true.1 h t (List.mem_range.2 hlt)
  simp only [Bool.or_eq_true] at h1
  rcases h1 with (h1 | h1) | h1
  · have := Nat.le_of_ble_eq_true h1; omega
  · rw [hu] at h1; cases h1
  have h2 := List.all_eq_true.1 h1 i (List.mem_range.2 hlt')
  simp only [Bool.or_eq_true] at h2
  rcases h2 with (h2 | h2) | h2
  · have := Nat.le_of_ble_eq_true h2; omega
  · rw [hun] at h2; cases h2
  have := waits_listed hc (t := t) (fun o' ho' e he hb => by rw [ho] at ho'; cases ho'; exact hall e he hb) i h2
  rw [hun] at this; cases this
theorem unl {listed : Array Bool} {i : Nat} (h : listed.getD i true = false) : listed.getD i false = false := by
  simp only [Array.getD_eq_getD_getElem?] at *
  cases e : listed[i]? with
  | none => rfl
  | some b => rw [e] at h; simpa using h
theorem wpG.first {i : Nat} {oi : Oper} {v : Value} {Y : World → Prop} (hi : ops[i]? = some oi) (hsel : Region.noSelect ops = true)
    (hQ : ∀ c a w, Q (.panic c) (a.put oi.dst v) w → Q (.panic c) a w) (OK : Array Bool → Prop) (hset : ∀ listed j, OK listed → j ∈ Region.ready .any ops listed → OK (listed.setIfInBounds j true))
    (hY : ∀ listed j w w', OK listed → i ∈ Region.ready .any ops listed → j ∈ Region.ready .any ops listed → Y w → S0 w' → (hd j = 0 → S w') → (hd j = 1 → S w → S w') → Y w') (hY0 : ∀ w, Y w → S0 w) (hYS : hd i = 0 → ∀ w, Y w → S w) :
    ∀ (fuel : Nat) (listed : Array Bool) (a : Act) (w : World), OK listed →
      (∀ j oj, ops[j]? = some oj → j ≠ i → listed.getD j true = false → (∀ e ∈ oj.after, Region.binds .any e = true → e.on ≠ i) → oi.apart ops oj = true) →
      i ∈ Region.ready .any ops listed → YieldsIf P ops Y oi v a → Y w →
      wpG P ops Q S0 S hd fuel (listed.setIfInBounds i true) (a.put oi.dst v) w → wpG P ops Q S0 S hd (fuel + 1) listed a w := by
  have none : ∀ {listed : Array Bool}, i ∈ Region.ready .any ops listed → Region.ready .any ops listed ≠ [] := fun hr h => by rw [h] at hr; cases hr
  intro fuel
  induction fuel with
  | zero =>
    intro listed a w _ _ hr hy hS H
    refine ⟨fun h => absurd h (none hr), fun j hj => ?_⟩
    by_cases e : j = i
    · subst e; exact hy.wpOp hi hS ⟨hY0 w hS, fun h => hYS h w hS, fun _ h => h, H⟩
    · have := ready_mono hj e
      rw [H.1] at this; cases this
  | succ f ih =>
    intro listed a w hok hfree hr hy hS H
    have hun := (mem_ready.1 hr).1
    refine ⟨fun h => absurd h (none hr), fun j hj => ?_⟩
    by_cases e : j = i
    · subst e; exact hy.wpOp hi hS ⟨hY0 w hS, fun h => hYS h w hS, fun _ h => h, H⟩
    obtain ⟨hjun, oj, hoj, hall⟩ := mem_ready.1 hj
    have hnot : ∀ e ∈ oj.after, Region.binds .any e = true → e.on ≠ i := fun e he hb heq => by
      have h1 := hall e he hb
      rw [heq, unl hun] at h1; cases h1
    refine wpOp_mono (fun a' w' h3 => ?_) (wpOp_putIf hoj (hfree j oj hoj e hjun hnot) (fun cs b => Region.noSelect_spec hsel i oi cs b hi) (fun cs b => Region.noSelect_spec hsel j oj cs b hoj) hQ hy (H.2 j (ready_mono hj e)))
    have hS' : Y w' := hY listed j w w' hok hr hj hS h3.2.1 h3.2.2.1 h3.2.2.2.1
    refine ⟨h3.2.1, h3.2.2.1, h3.2.2.2.1, ih (listed.setIfInBounds j true) a' w' (hset listed j hok hj) (fun k ok hk hki hu hno => hfree k ok hk hki ?_ hno) (ready_mono hr (Ne.symm e)) h3.1 hS' ?_⟩
    · by_cases e2 : j = k
      · subst e2; exact hjun
      · rw [getD_set_ne true e2] at hu; exact hu
    · rw [Array.setIfInBounds_comm _ _ e]; exact h3.2.2.2.2
theorem wpG.head {i : Nat} {oi : Oper} {v : Value} (hi : ops[i]? = some oi) (hsel : Region.noSelect ops = true) (hih : hd i = 0) (hQ : ∀ c a w, Q (.panic c) (a.put oi.dst v) w → Q (.panic c) a w) (h0 : ∀ w, S w → S0 w)
    {fuel : Nat} {listed : Array Bool} {a : Act} {w : World} (hcl : Closed ops listed) (ht : tailB ops hd listed = true) (hf : Region.free .any ops listed i = true)
    (hr : i ∈ Region.ready .any ops listed) (hy : YieldsIf P ops S oi v a) (hS : S w) (H : wpG P ops Q S0 S hd fuel (listed.setIfInBounds i true) (a.put oi.dst v) w) : wpG P ops Q S0 S hd (fuel + 1) listed a w :=
  wpG.first (Y := S) hi hsel hQ (fun l => Closed ops l ∧ tailB ops hd l = true) (fun l j h hj => ⟨h.1.set hj, tailB_set h.2⟩)
    (fun l j w w' hok hri hrj hw _ h2 h3 => by
      rcases Nat.lt_or_ge (hd j) 2 with h | h
      · rcases Nat.lt_or_ge (hd j) 1 with h' | h'
        · exact h2 (by omega)
        · exact h3 (by omega) hw
      · exact absurd hrj (tailB_spec hok.2 h hih (Array.getElem?_eq_some_iff.1 hi).1 hok.1 (unl (mem_ready.1 hri).1))) h0 (fun _ _ h => h) fuel listed a w ⟨hcl, ht⟩ (Region.free_spec hi hf) hr hy hS H
theorem wpG.slots {i : Nat} {oi : Oper} {v : Value} (hi : ops[i]? = some oi) (hsel : Region.noSelect ops = true) (hih : hd i ≠ 0) (hQ : ∀ c a w, Q (.panic c) (a.put oi.dst v) w → Q (.panic c) a w)
    {fuel : Nat} {listed : Array Bool} {a : Act} {w : World} (hf : Region.free .any ops listed i = true)
    (hr : i ∈ Region.ready .any ops listed) (hy : YieldsIf P ops S0 oi v a) (hS : S0 w) (H : wpG P ops Q S0 S hd fuel (listed.setIfInBounds i true) (a.put oi.dst v) w) : wpG P ops Q S0 S hd (fuel + 1) listed a w :=
  wpG.first (Y := S0) hi hsel hQ (fun _ => True) (fun _ _ _ _ => trivial) (fun _ _ _ _ _ _ _ _ h _ _ => h) (fun _ h => h) (fun h => absurd h hih) fuel listed a w trivial (Region.free_spec hi hf) hr hy hS H
end
section
variable {P : Program} {σ : World} {n : Nat} {Q : Post} {K : Env} {D M D0 M0 : List Asn} {ops : Array Oper} {fuel : Nat} {hd : Nat → Nat} {listed : Array Bool}
theorem Sat.noM {w : World} (t : Sat σ D M w) : Sat σ D [] w := t.ent (fun _ _ => trivial)
def A (P : Program) (σ : World) (n : Nat) (ops : Array Oper) (Q : Post) (hd : Nat → Nat) (D0 M0 : List Asn) (fuel : Nat) (listed : Array Bool) (K : Env) (D M : List Asn) : Prop := T σ n (wpG P ops (NoPO Q) (fun w => Sat σ D0 [] w) (fun w => Sat σ D0 M0 w) hd fuel listed) K D M
theorem T.regionA {id : Nat} {l : List Oper} (hd : Nat → Nat) (hm : P.follows .mixedOrders = true) (h : A P σ n l.toArray Q hd D M l.toArray.size (Array.replicate l.toArray.size false) K D M) (hc : calmB l = true := by kernel_rfl) : T σ n (wq P (Code.region id l.toArray true) Q) K D M := fun a w s t =>
  wq_any hm (by simpa using hc) (wpG.any _ _ _ _ (h a _ s (t.drew _)))
theorem A.done (hr : Region.ready .any ops listed = []) (h : T σ n (Q .normal) K D M) : A P σ n ops Q hd D0 M0 fuel listed K D M := fun a w s t => by
  cases fuel with
  | zero => exact ⟨hr, NoPO.normal (h a w s t)⟩
  | succ f => exact ⟨fun _ => NoPO.normal (h a w s t), fun i hi => (by rw [hr] at hi; cases hi)⟩
def Step1 (P : Program) (σ : World) (ops : Array Oper) (Q : Post) (hd : Nat → Nat) (D0 M0 : List Asn) (fuel : Nat) (listed : Array Bool) (i : Nat) : Post := fun e a w => e = .normal ∧ Sat σ D0 [] w ∧ (hd i = 0 → Sat σ D0 M0 w) ∧ hd i ≠ 1 ∧ wpG P ops (NoPO Q) (fun w => Sat σ D0 [] w) (fun w => Sat σ D0 M0 w) hd fuel listed a w
theorem A.back {i : Nat} (hi : Nat.beq (hd i) 1 = false) (hD : SubD D0 D) (hM : Ent M M0) (h : A P σ n ops Q hd D0 M0 fuel listed K D M) : TL none P (dr σ) n ops (Step1 P σ ops Q hd D0 M0 fuel listed i) [] K D M := fun a w s t => ⟨rfl, (t.undr.facts hD).noM, fun _ => (t.undr.facts hD).ent hM, fun e => (by rw [e] at hi; cases hi), h a w s.undr t.undr⟩
theorem A.backT {i : Nat} (hi : hd i = 2) (hD : SubD D0 D) (h : A P σ n ops Q hd D0 M0 fuel listed K D M) : TL none P (dr σ) n ops (Step1 P σ ops Q hd D0 M0 fuel listed i) [] K D M := fun a w s t => ⟨rfl, (t.undr.facts hD).noM, fun h => absurd h (by omega), by omega, h a w s.undr t.undr⟩
def Each (P : Program) (σ : World) (n : Nat) (ops : Array Oper) (Q : Post) (hd : Nat → Nat) (D0 M0 : List Asn) (fuel : Nat) (listed : Array Bool) (K : Env) (D M : List Asn) : List Nat → Prop
  | [] => True
  | i :: is => (∃ o, ops[i]? = some o ∧ TL none P (dr σ) n ops (Step1 P σ ops Q hd D0 M0 fuel (listed.setIfInBounds i true) i) [o] K D M) ∧ Each P σ n ops Q hd D0 M0 fuel listed K D M is
theorem upon_mono {o : Oper} {a : Act} {K1 K2 : Act → World → Prop} {Q1 Q2 : Post} {r : Result Next} (hK : ∀ a w, K1 a w → K2 a w) (hp : ∀ c a w, Q1 (.panic c) a w → Q2 (.panic c) a w) (hl : LetsOut Q1 → LetsOut Q2)
    (h : o.upon P a K1 Q1 r) : o.upon P a K2 Q2 r := by
  cases r with
  | ok n w' =>
    cases n <;> simp only [Oper.upon] at h ⊢ <;>
      first
        | exact hK _ _ h
        | exact Calls.mono h (fun e w'' he => by cases e <;> first | exact hK _ _ he | exact hp _ _ _ he | exact hl he)
        | exact Rows.mono h (fun _ _ he => hK _ _ he)
  | halt x w' => cases x <;> simp only [Oper.upon] at h ⊢ <;> exact hp _ _ _ h
theorem Each.mem {is : List Nat} (h : Each P σ n ops Q hd D0 M0 fuel listed K D M is) : ∀ i ∈ is, ∃ o, ops[i]? = some o ∧ TL none P (dr σ) n ops (Step1 P σ ops Q hd D0 M0 fuel (listed.setIfInBounds i true) i) [o] K D M := by
  induction is with
  | nil => intro i hi; cases hi
  | cons j is ih =>
    intro i hi
    cases hi with
    | head => exact h.1
    | tail _ hi => exact ih h.2 i hi
theorem A.branch {is : List Nat} (hr : Region.ready .any ops listed = is) (hne : is ≠ []) (h : Each P σ n ops Q hd D0 M0 fuel listed K D M is) : A P σ n ops Q hd D0 M0 (fuel + 1) listed K D M := fun a w s t => by
  refine ⟨fun h0 => absurd (hr.symm.trans h0) hne, fun i hi => ?_⟩
  rw [hr] at hi
  obtain ⟨o, ho, hT⟩ := h.mem i hi
  have h1 := hT a w s.dr t.dr
  have hlets : LetsOut (Step1 P σ ops Q hd D0 M0 fuel (listed.setIfInBounds i true) i) → False := fun ⟨_, _, h, _⟩ => by cases h
  unfold wpOp
  simp only [ho]
  simp only [wpL] at h1
  split
  · rename_i hw
    simp only [hw, if_true] at h1
    rcases h1 with ⟨_, h1⟩ | ⟨h1, _⟩
    · exact .inl (upon_mono (fun a w hh => ⟨hh.2.1, hh.2.2.1, fun e => absurd e hh.2.2.2.1, hh.2.2.2.2⟩) (fun c a w hh => by cases hh.1) (fun hh => (hlets hh).elim) h1)
    · rw [yok_dr] at h1; cases h1
  · rename_i hw
    simp only [hw] at h1
    exact ⟨h1.2.1, h1.2.2.1, fun e => absurd e h1.2.2.2.1, h1.2.2.2.2⟩
def Plain : Op → Bool
  | .move _ | .assign _ | .pick .. | .binOp .. | .unOp .. | .convert .. | .extract .. | .fieldAddr .. | .indexAddr .. | .index .. | .field .. | .load .. | .lookup .. | .build .. | .slice .. | .makeInterface .. => true
  | .call ⟨.builtin .len, _, _⟩ | .call ⟨.builtin .min, _, _⟩ | .call ⟨.builtin .max, _, _⟩ | .call ⟨.builtin .cap, _, _⟩ => true
  | _ => false
theorem plain_value {o : Oper} (h : Plain o.op = true) {ρ : Operand → Value} {w w' : World} {x : Next} (e : (execOp ρ o).run P w = .ok x w') : ∃ v, x = .value v := by
  obtain ⟨dst, op, ty, pos, aft, g⟩ := o
  have key : ∀ (s : Sem Value), (Next.value <$> s).run P w = .ok x w' → ∃ v, x = .value v := fun s e => by
    rw [map_eq_pure_bind, Sem.run_bind] at e
    cases hs : s.run P w with
    | ok v w1 =>
      rw [hs] at e
      simp [Result.andThen, Sem.run_pure] at e
      exact ⟨v, e.1.symm⟩
    | halt y w1 => rw [hs] at e; simp [Result.andThen] at e
  have key2 : ∀ (s : Sem Bool) (f : Bool → Value), (do let b ← s; pure (Next.value (f b))).run P w = .ok x w' → ∃ v, x = .value v := fun s f e => by
    rw [Sem.run_bind] at e
    cases hs : s.run P w with
    | ok v w1 =>
      rw [hs] at e
      simp [Result.andThen, Sem.run_pure] at e
      exact ⟨_, e.1.symm⟩
    | halt y w1 => rw [hs] at e; simp [Result.andThen] at e
  have key3 : ∀ (s : Sem Value), (do let b ← s; pure (Next.value b)).run P w = .ok x w' → ∃ v, x = .value v := fun s e => by
    rw [Sem.run_bind] at e
    cases hs : s.run P w with
    | ok v w1 =>
      rw [hs] at e
      simp [Result.andThen, Sem.run_pure] at e
      exact ⟨_, e.1.symm⟩
    | halt y w1 => rw [hs] at e; simp [Result.andThen] at e
  cases op <;> simp only [Plain, Bool.false_eq_true] at h
  all_goals simp only [execOp] at e
  case call c =>
    obtain ⟨cal, args, ats⟩ := c
    cases cal with
    | builtin b =>
      simp only [resolve, Sem.run_bind, Sem.run_pure, Result.andThen, invoke, builtin] at e
      cases b <;> simp only [Bool.false_eq_true] at h
      all_goals exact key3 _ e
    | _ => simp at h
  case pick c a b => exact key2 _ (fun d => if d = true then ρ a else ρ b) e
  all_goals first | exact key _ e | (simp at e; exact ⟨_, e.1.symm⟩)
theorem put_getD {n d : Nat} {K : Env} {a : Act} {v : Value} (s : Slots σ n K a) (hd : Nat.blt d n = true) : (a.put (some d) v).tmps.getD d undef = v := by
  have h1 : d < a.tmps.size := by rw [s.size]; exact Nat.le_of_ble_eq_true hd
  simp [Act.put, h1]
def PV (d : Nat) (Φ : Value → Prop) : Post := fun e a w => e = .normal ∧ Φ (a.tmps.getD d undef)
theorem A.took {p : List Asn × List Asn} {d : Nat} {v : Value} {Φ : Value → Prop} (h : Φ v) : TL (some p) P σ n ops (PV d Φ) [] ((d, v) :: K) D M := fun hp a s w t => ⟨rfl, by rw [s.val d v (by simp [get])]; exact h⟩
theorem A.take {i d : Nat} {o : Oper} (ho : ops[i]? = some o) (hdst : o.dst = some d) (hdn : Nat.blt d n = true) (hpl : Plain o.op = true) (hns : Region.noSelect ops = true) (hf : Region.free .any ops listed i = true)
    (hr : (Region.ready .any ops listed).contains i = true) (htl : (tailB ops hd listed && closedB ops listed) = true) (hih : hd i = 0) (hD : SubD D0 D) (hM : Ent M M0)
    (hp : TL (some (D0, M0)) P σ n ops (PV d fun v => A P σ n ops Q hd D0 M0 fuel (listed.setIfInBounds i true) ((d, v) :: K) D M) [o] K D0 M0) : A P σ n ops Q hd D0 M0 (fuel + 1) listed K D M := fun a w s t => by
  have key := hp ⟨.refl _, rfl, fun _ t => t⟩ a s
  have hS : Sat σ D0 M0 w := (t.facts hD).ent hM
  have hy : ∃ v, YieldsIf P ops (fun w => Sat σ D0 M0 w) o v a ∧ A P σ n ops Q hd D0 M0 fuel (listed.setIfInBounds i true) ((d, v) :: K) D M := by
    cases hw : Region.wanted o (yielded ops a.tmps) with
    | true =>
      unfold wpQuiet at key
      rw [hw, if_pos rfl] at key
      obtain ⟨v', h1, h2⟩ := key
      have h4 := (h2 w hS).2
      rw [hdst, put_getD s hdn] at h4
      refine ⟨v', .inl ⟨hw, fun w1 t1 => ?_⟩, h4⟩
      have h3 := h1 w1 t1
      unfold Oper.quietAt at h3
      cases hx : (execOp a.eval o).run P w1 with
      | ok x w' =>
        obtain ⟨u, rfl⟩ := plain_value hpl hx
        rw [hx] at h3
        obtain ⟨rfl, rfl⟩ := h3
        rfl
      | halt x w' => rw [hx] at h3; cases h3
    | false =>
      unfold wpQuiet at key
      rw [hw, if_neg (by simp)] at key
      have h4 := (key w hS).2
      rw [hdst, put_getD s hdn] at h4
      exact ⟨undef, .inr ⟨hw, rfl⟩, h4⟩
  obtain ⟨v, hy, hA⟩ := hy
  refine wpG.head ho hns hih (fun c a w h => by cases h) (fun _ h => Sat.noM h) (closedB_spec (by simp only [Bool.and_eq_true] at htl; exact htl.2)) (by simp only [Bool.and_eq_true] at htl; exact htl.1) hf (by simpa using hr) hy hS ?_
  rw [hdst]
  exact hA _ _ (s.put v hdn) t
theorem A.takeP {i d : Nat} {o : Oper} (ho : ops[i]? = some o) (hdst : o.dst = some d) (hdn : Nat.blt d n = true) (hpl : Plain o.op = true) (hns : Region.noSelect ops = true) (hf : Region.free .any ops listed i = true)
    (hr : (Region.ready .any ops listed).contains i = true) (hih : Nat.beq (hd i) 0 = false) (hD : SubD D0 D)
    (hp : TL (some (D0, [])) P σ n ops (PV d fun v => A P σ n ops Q hd D0 M0 fuel (listed.setIfInBounds i true) ((d, v) :: K) D M) [o] K D0 []) : A P σ n ops Q hd D0 M0 (fuel + 1) listed K D M := fun a w s t => by
  have key := hp ⟨.refl _, rfl, fun _ t => t⟩ a s
  have hS : Sat σ D0 [] w := (t.facts hD).noM
  have hy : ∃ v, YieldsIf P ops (fun w => Sat σ D0 [] w) o v a ∧ A P σ n ops Q hd D0 M0 fuel (listed.setIfInBounds i true) ((d, v) :: K) D M := by
    cases hw : Region.wanted o (yielded ops a.tmps) with
    | true =>
      unfold wpQuiet at key
      rw [hw, if_pos rfl] at key
      obtain ⟨v', h1, h2⟩ := key
      have h4 := (h2 w hS).2
      rw [hdst, put_getD s hdn] at h4
      refine ⟨v', .inl ⟨hw, fun w1 t1 => ?_⟩, h4⟩
      have h3 := h1 w1 t1
      unfold Oper.quietAt at h3
      cases hx : (execOp a.eval o).run P w1 with
      | ok x w' =>
        obtain ⟨u, rfl⟩ := plain_value hpl hx
        rw [hx] at h3
        obtain ⟨rfl, rfl⟩ := h3
        rfl
      | halt x w' => rw [hx] at h3; cases h3
    | false =>
      unfold wpQuiet at key
      rw [hw, if_neg (by simp)] at key
      have h4 := (key w hS).2
      rw [hdst, put_getD s hdn] at h4
      exact ⟨undef, .inr ⟨hw, rfl⟩, h4⟩
  obtain ⟨v, hy, hA⟩ := hy
  refine wpG.slots ho hns (fun h => by rw [h] at hih; cases hih) (fun c a w h => by cases h) hf (by simpa using hr) hy hS ?_
  rw [hdst]
  exact hA _ _ (s.put v hdn) t
theorem Each.nil : Each P σ n ops Q hd D0 M0 fuel listed K D M [] := trivial
theorem Each.cons {i : Nat} {is : List Nat} {o : Oper} (ho : ops[i]? = some o) (h : TL none P (dr σ) n ops (Step1 P σ ops Q hd D0 M0 fuel (listed.setIfInBounds i true) i) [o] K D M) (k : Each P σ n ops Q hd D0 M0 fuel listed K D M is) : Each P σ n ops Q hd D0 M0 fuel listed K D M (i :: is) := ⟨⟨o, ho, h⟩, k⟩
theorem A.nilCheck {i d : Nat} {x : Operand} {p : Addr} {ty : TypeId} {pos : String} {aft : Array Edge} (ho : ops[i]? = some ⟨some d, .nilCheck x, ty, pos, aft, none⟩) (hdn : Nat.blt d n = true) (hns : Region.noSelect ops = true) (hf : Region.free .any ops listed i = true)
    (hr : (Region.ready .any ops listed).contains i = true) (htl : (tailB ops hd listed && closedB ops listed) = true) (hih : hd i = 0) (hD : SubD D0 D) (hM : Ent M M0) (hx : ev K x = some (.pointer (some p)))
    (next : A P σ n ops Q hd D0 M0 fuel (listed.setIfInBounds i true) ((d, .pointer (some p)) :: K) D M) : A P σ n ops Q hd D0 M0 (fuel + 1) listed K D M := fun a w s t => by
  have hy : YieldsIf P ops (fun w => Sat σ D0 M0 w) ⟨some d, .nilCheck x, ty, pos, aft, none⟩ (.pointer (some p)) a := .inl ⟨rfl, fun w1 t1 => by
    have e : a.eval x = _ := s.eval hx
    simp only [execOp, e]
    simp⟩
  exact wpG.head ho hns hih (fun c a w h => by cases h) (fun _ h => Sat.noM h) (closedB_spec (by simp only [Bool.and_eq_true] at htl; exact htl.2)) (by simp only [Bool.and_eq_true] at htl; exact htl.1) hf (by simpa using hr) hy ((t.facts hD).ent hM) (next _ _ (s.put _ hdn) t)
theorem A.nilCheckP {i d : Nat} {x : Operand} {p : Addr} {ty : TypeId} {pos : String} {aft : Array Edge} (ho : ops[i]? = some ⟨some d, .nilCheck x, ty, pos, aft, none⟩) (hdn : Nat.blt d n = true) (hns : Region.noSelect ops = true) (hf : Region.free .any ops listed i = true)
    (hr : (Region.ready .any ops listed).contains i = true) (hih : Nat.beq (hd i) 0 = false) (hD : SubD D0 D) (hx : ev K x = some (.pointer (some p)))
    (next : A P σ n ops Q hd D0 M0 fuel (listed.setIfInBounds i true) ((d, .pointer (some p)) :: K) D M) : A P σ n ops Q hd D0 M0 (fuel + 1) listed K D M := fun a w s t => by
  have hy : YieldsIf P ops (fun w => Sat σ D0 [] w) ⟨some d, .nilCheck x, ty, pos, aft, none⟩ (.pointer (some p)) a := .inl ⟨rfl, fun w1 t1 => by
    have e : a.eval x = _ := s.eval hx
    simp only [execOp, e]
    simp⟩
  exact wpG.slots ho hns (fun h => by rw [h] at hih; cases hih) (fun c a w h => by cases h) hf (by simpa using hr) hy (t.facts hD).noM (next _ _ (s.put _ hdn) t)
theorem A.known {t : Nat} {v v' : Value} (h : get K t = some v) (e : v = v') (next : A P σ n ops Q hd D0 M0 fuel listed ((t, v') :: K) D M) : A P σ n ops Q hd D0 M0 fuel listed K D M := by
  subst e
  exact T.keep (fun u x hx => by
    simp only [get] at hx
    cases hb : Nat.beq t u with
    | true => rw [hb, cond_true] at hx; rw [← Nat.eq_of_beq_eq_true hb, h]; exact hx
    | false => rw [hb, cond_false] at hx; exact hx) next
end
end Cv
namespace Cv
open Go
theorem bitsAnd_mask (a : Int) (k : Nat) (hk : k ≤ 62) : bitsAnd .i64 a (2 ^ k - 1) = a % (2 ^ k - 1 + 1) := by
  unfold bitsAnd
  have e1 : (BitVec.ofInt IntKind.i64.bits a).toNat = (a % 2 ^ 64).toNat := by simp [IntKind.bits, BitVec.toNat_ofInt]
  have hp : (2 : Int) ^ k - 1 = ((2 ^ k - 1 : Nat) : Int) := by
    have : 1 ≤ 2 ^ k := Nat.one_le_two_pow
    rw [Int.natCast_sub this]; simp
  have hk2 : 2 ^ k ≤ 2 ^ 62 := Nat.pow_le_pow_right (by omega) hk
  have e2 : (BitVec.ofInt IntKind.i64.bits ((2 : Int) ^ k - 1)).toNat = 2 ^ k - 1 := by
    rw [hp]
    simp only [IntKind.bits, BitVec.toNat_ofInt]
    have : ((2 ^ k - 1 : Nat) : Int) % ((2 ^ 64 : Nat) : Int) = ((2 ^ k - 1 : Nat) : Int) := by
      apply Int.emod_eq_of_lt
      · omega
      · have h64 : (2:Nat)^62 < 2^64 := by decide
        omega
    rw [this]; simp
  rw [BitVec.toNat_and, e1, e2, Nat.and_two_pow_sub_one_eq_mod]
  have h3 : ((a % 2 ^ 64).toNat % 2 ^ k : Nat) < 2 ^ k := Nat.mod_lt _ (Nat.two_pow_pos k)
  have h4 : (((a % 2 ^ 64).toNat % 2 ^ k : Nat) : Int) = a % 2 ^ k := by
    rw [Int.natCast_emod, Int.toNat_of_nonneg (Int.emod_nonneg _ (by decide))]
    have : ((2 ^ k : Nat) : Int) = 2 ^ k := by simp
    rw [this]
    apply Int.emod_emod_of_dvd
    have hd := Int.natCast_dvd_natCast.2 (Nat.pow_dvd_pow 2 (show k ≤ 64 from by omega))
    simpa using hd
  rw [h4, show (2:Int)^k - 1 + 1 = 2^k from by omega]
  apply wrap_i64
  · have := Int.emod_nonneg a (b := (2:Int)^k) (by have : (0:Int) < 2^k := Int.pow_pos (by decide); omega); omega
  · rw [← h4]
    have h62 : (2:Nat)^62 = 4611686018427387904 := by decide
    omega
section
variable {P : Program} {σ : World} {n : Nat} {Q : Post} {K : Env} {D M : List Asn} {m : Option (List Asn × List Asn)} {ops : Array Oper} {rest : List Oper} {d : Nat} {ty : TypeId} {pos : String} {aft : Array Edge}
theorem L.andM {x y : Operand} {t t' : TypeId} {a b : Int} {k : Nat} (hd : Nat.blt d n = true) (hx : ev K x = some (.int .i64 a)) (hy : ev K y = some (.int .i64 b)) (hb : b = 2 ^ k - 1) (hk : k ≤ 62) (next : TL m P σ n ops Q rest ((d, .int .i64 (a % (b + 1))) :: K) D M) :
    TL m P σ n ops Q (⟨some d, .binOp .and t x y t', ty, pos, aft, none⟩ :: rest) K D M :=
  L.andI hd hx hy (by subst hb; rw [bitsAnd_mask a k hk]; exact next)
end
end Cv
