/-
  The walks: infos read.
-/
import Derived.Test.YtcilkdnbbebjgaaGreatLa11
import Derived.Test.YtcilkdnbbebjgaaGreatF06
import Derived.Test.YtcilkdnbbebjgaaGreatProg
import Derived.KernelRfl
set_option linter.unusedVariables false
set_option linter.unusedSimpArgs false
set_option linter.unusedSectionVars false
set_option maxRecDepth 10000
namespace Cv
open Go Go.Proofs
/-! ## names read from a bale -/
def idR (b : Bl) : ID32 × Bl := (if h : (bytB b 32).1.length = 32 then ⟨(bytB b 32).1, h⟩ else zID, (bytB b 32).2)
def idsL : Nat → Bl → List ID32 × Bl
  | 0, b => ([], b)
  | n + 1, b => if b.err ≠ 0 then ([], b) else ((idR b).1 :: (idsL n (idR b).2).1, (idsL n (idR b).2).2)
structure IdsI (b : Bl) (n j : Nat) (q : Bl) (acc : List ID32) : Prop where
  r1 : (idsL n b).1 = acc ++ (idsL j q).1
  r2 : (idsL n b).2 = (idsL j q).2
  len : acc.length + j = n
theorem IdsI.start {b : Bl} {n : Nat} : IdsI b n n b [] := ⟨rfl, rfl, Nat.zero_add _⟩
theorem IdsI.next {b q : Bl} {n j : Nat} {acc : List ID32} (h : IdsI b n (j + 1) q acc) (e : q.err = 0) : IdsI b n j (idR q).2 (acc ++ [(idR q).1]) := by
  obtain ⟨h1, h2, h3⟩ := h
  rw [idsL, if_neg (fun k => k e)] at h1 h2
  exact ⟨by rw [h1]; simp, h2, by rw [List.length_append]; simp only [List.length_singleton]; omega⟩
theorem IdsI.stop {b q : Bl} {n j : Nat} {acc : List ID32} (h : IdsI b n j q acc) (e : j = 0 ∨ q.err ≠ 0) : idsL n b = (acc, q) := by
  obtain ⟨h1, h2, h3⟩ := h
  have : idsL j q = ([], q) := by
    cases j with
    | zero => rfl
    | succ j => rw [idsL, if_pos (by rcases e with e | e <;> first | omega | exact e)]
  rw [this] at h1 h2
  exact Prod.ext (by rw [h1]; simp) h2
end Cv
