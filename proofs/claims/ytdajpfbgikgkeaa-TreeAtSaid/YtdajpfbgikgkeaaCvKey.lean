/-
  My own library for walks, a text of it (CvKey): separation logic over the kit's Calls; no statement of this seat stands here.
-/
import Derived.Test.YtdajpfbgikgkeaaCvRange
set_option linter.unusedVariables false
set_option linter.unusedSimpArgs false
set_option linter.unusedSectionVars false
namespace Cv
open Go
/-! ## keys: strings, and arrays of bytes -/
theorem bytes_beq (a b : List UInt8) : ((ByteArray.mk a.toArray) == (ByteArray.mk b.toArray)) = decide (a = b) := by
  show (a.toArray == b.toArray) = decide (a = b)
  by_cases h : a = b
  · subst h; simp
  · have hne : a.toArray ≠ b.toArray := fun e => h (by injection e)
    rw [decide_eq_false h]
    exact beq_eq_false_iff_ne.2 hne
theorem keyT_str {P : Program} {t : TypeId} (ht : P.underlying t = some .string) : KeyT P t S where
  check e k w := by rw [show (10000 : Nat) = 9999 + 1 from rfl, Instr.checkKey]; simp [run_underlying ht, S]
  find venc k es l w h := by
    have key : ∀ (es : List MapEntry) (l : List (List UInt8 × _)) (i : Nat), es.map (fun e => (e.key, e.val)) = l.map (fun p => (S p.1, venc p.2)) →
        Instr.findNow .string (S k) es i = some ((lookI l k i).map fun p => (p.1, venc p.2)) := by
      intro es
      induction es with
      | nil => intro l i h; cases l with
        | nil => rfl
        | cons p l => simp at h
      | cons e es ih => intro l i h; cases l with
        | nil => simp at h
        | cons p l =>
          obtain ⟨k', v⟩ := p
          simp only [List.map_cons, List.cons.injEq, Prod.mk.injEq] at h
          obtain ⟨⟨h1, h2⟩, h3⟩ := h
          simp only [Instr.findNow, h1, S, Instr.sameNow, lookI, bytes_beq]
          by_cases e1 : k' = k
          · simp [e1, h2]
          · have : decide (k = k') = false := by simp; exact fun h => e1 h.symm
            simp only [this, if_neg e1]
            exact ih l (i + 1) h3
    simp [Instr.findKey, run_underlying ht, key es l 0 h]
  same k := by rw [show (10000 : Nat) = 9999 + 1 from rfl]; simp [Instr.sameBits, S, bytes_beq]
end Cv
