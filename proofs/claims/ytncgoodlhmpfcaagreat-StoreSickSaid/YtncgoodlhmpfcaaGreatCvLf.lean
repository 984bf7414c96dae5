/-
  My own library for walks (CvLaw): separation logic over the calls of the kit; no statement of this seat stands here.
-/
import Derived.Test.YtncgoodlhmpfcaaGreatCvLb
set_option linter.all false
namespace Cv
open Go Go.RowKit
def old (W : World) : Asn := fun z => ∀ b o, W.heap[b]? = some o → z b = some o
theorem Sat.start (W : World) {D0 : List Asn} (h : ∀ φ ∈ D0, φ (hp W)) : Sat W (D0 ++ [old W]) [] W := by
  refine ⟨⟨rfl, Nat.le_refl _⟩, rfl, rfl, hp W, (fun _ => none), Hp.le.refl _, (fun _ _ e => by cases e), fun _ => .inr rfl, fun φ hφ => ?_, trivial⟩
  rcases List.mem_append.1 hφ with a | a
  · exact ⟨hp W, Hp.le.refl _, h φ a⟩
  · simp at a
    subst a
    exact ⟨hp W, Hp.le.refl _, fun b o e => e⟩
theorem Sat.below {W w : World} {D M : List Asn} (h : Sat W D M w) (k : old W ∈ D) : Below W.heap.size W w := by
  obtain ⟨y, ly, hy⟩ := h.fact k
  have hb : ∀ b, b < W.heap.size → w.heap[b]? = W.heap[b]? := fun b hlt => by
    have e : W.heap[b]? = some (W.heap[b]'hlt) := Array.getElem?_eq_getElem hlt
    rw [e]; exact ly _ _ (hy _ _ e)
  refine ⟨h.os.1, h.tape, h.output, ?_, hb⟩
  rcases Nat.eq_zero_or_pos W.heap.size with e | e
  · omega
  · have := hb (W.heap.size - 1) (by omega)
    rw [Array.getElem?_eq_getElem (show W.heap.size - 1 < W.heap.size by omega)] at this
    have := (Array.getElem?_eq_some_iff.1 this).1
    omega
theorem Spec.law {P : Program} {f : FuncId} {args : List Value} {D0 : List Asn} (h : Spec P f args D0 [] (fun v D' M' => v = .bool true ∧ D' = [] ∧ M' = [])) {W : World} (hD : ∀ φ ∈ D0, φ (hp W)) :
    Calls P f args.toArray W fun e w' => e = .returned (.bool true) ∧ Below W.heap.size W w' :=
  (h.run W [old W] [] W (Sat.start W hD)).mono fun e w' ⟨v, D', M', he, ⟨hv, hd, hm⟩, hs⟩ => by
    subst hv; subst hd
    exact ⟨he, hs.below (by simp)⟩
end Cv
