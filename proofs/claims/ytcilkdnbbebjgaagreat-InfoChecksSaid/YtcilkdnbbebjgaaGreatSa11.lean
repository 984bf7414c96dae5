/-
  The walks: the reference of names.
-/
import Derived.Test.YtcilkdnbbebjgaaGreatQa11
import Derived.Test.YtcilkdnbbebjgaaGreatG06
import Derived.Test.YtcilkdnbbebjgaaGreatProg
import Derived.KernelRfl
set_option linter.unusedVariables false
set_option linter.unusedSimpArgs false
set_option linter.unusedSectionVars false
set_option maxRecDepth 10000
namespace Cv
open Go Go.Proofs
/-! ## the reference's reader of names: plain -/
def idsS : Nat → Bl → List (List UInt8) × Bl
  | 0, b => ([], b)
  | n + 1, b => if b.err ≠ 0 then ([], b) else ((bytB b 32).1 :: (idsS n (bytB b 32).2).1, (idsS n (bytB b 32).2).2)
structure IdsJ (b : Bl) (n i : Nat) (q : Bl) (acc : List (List UInt8)) : Prop where
  r1 : (idsS n b).1 = acc ++ (idsS (n - i) q).1
  r2 : (idsS n b).2 = (idsS (n - i) q).2
  le : i ≤ n ∧ acc.length = i
theorem IdsJ.start {b : Bl} {n : Nat} : IdsJ b n 0 b [] := ⟨rfl, rfl, Nat.zero_le _, rfl⟩
theorem IdsJ.next {b q : Bl} {n i : Nat} {acc : List (List UInt8)} (h : IdsJ b n i q acc) (hi : i < n) (e : q.err = 0) : IdsJ b n (i + 1) (bytB q 32).2 (acc ++ [(bytB q 32).1]) := by
  obtain ⟨h1, h2, h3⟩ := h
  rw [show n - i = (n - (i + 1)) + 1 by omega, idsS, if_neg (fun k => k e)] at h1 h2
  exact ⟨by rw [h1]; simp, h2, by omega, by rw [List.length_append, h3.2]; rfl⟩
theorem IdsJ.stop {b q : Bl} {n i : Nat} {acc : List (List UInt8)} (h : IdsJ b n i q acc) (e : ¬ i < n ∨ q.err ≠ 0) : idsS n b = (acc, q) := by
  obtain ⟨h1, h2, h3⟩ := h
  have : idsS (n - i) q = ([], q) := by
    rcases Nat.lt_or_ge i n with k | k
    · rw [show n - i = (n - (i + 1)) + 1 by omega, idsS, if_pos (by rcases e with e | e <;> first | exact absurd k e | exact e)]
    · rw [show n - i = 0 by omega]; rfl
  rw [this] at h1 h2
  exact Prod.ext (by rw [h1]; simp) h2
end Cv
