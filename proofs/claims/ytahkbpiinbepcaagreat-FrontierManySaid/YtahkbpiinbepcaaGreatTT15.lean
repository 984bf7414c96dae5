/-
  The walks: the reference of trees.
-/
import Derived.Test.YtahkbpiinbepcaaGreatEE15
import Derived.Test.YtahkbpiinbepcaaGreatCC15
import Derived.Test.YtahkbpiinbepcaaGreatProg
import Derived.KernelRfl
set_option linter.unusedVariables false
set_option linter.unusedSimpArgs false
set_option linter.unusedSectionVars false
set_option maxRecDepth 10000
namespace Cv
open Go Go.Proofs
/-! ## the reference of trees: its loop -/
abbrev Stp := Pt × Int
@[reducible] def stR (s : Stp) : List Value := [S s.1.1.1, .int .i64 s.1.2, .int .i64 s.2]
theorem stR_len (s : Stp) : (stR s).length = 3 := rfl
theorem one_st {s : Stp} : ∀ u ∈ stR s, u.oneCell' = true := fun u hu => by
  simp only [stR, List.mem_cons, List.not_mem_nil, or_false] at hu
  rcases hu with rfl | rfl | rfl <;> rfl
theorem one_sts {l : List Stp} : ∀ u ∈ (l.map stR).flatten, u.oneCell' = true := fun u hu => by
  obtain ⟨r, hr, hu⟩ := List.mem_flatten.1 hu
  obtain ⟨x, _, rfl⟩ := List.mem_map.1 hr
  exact one_st u hu
def mor (z : Nat × List Pt × Int) (j : Nat) : List Stp := (z.2.1.take j).map fun q => (q, ((z.1 : Nat) : Int) - 1)
theorem mor_s {z : Nat × List Pt × Int} {j : Nat} {q : Pt} (h : z.2.1[j]? = some q) : mor z (j + 1) = mor z j ++ [(q, ((z.1 : Nat) : Int) - 1)] := by
  unfold mor; rw [List.take_add_one, h, List.map_append]; rfl
theorem mem_val {op : List ID32} {x : ID32} : x.1 ∈ op.map (·.1) ↔ x ∈ op := by
  constructor
  · intro h
    obtain ⟨y, hy, e⟩ := List.mem_map.1 h
    rw [← Subtype.ext e]; exact hy
  · exact fun h => List.mem_map.2 ⟨x, h, rfl⟩
theorem tl_row {s : Stp} {lr : List Stp} {n : Nat} (h : (s :: lr).length = n) : (((s :: lr).map stR).drop 1).take (n - 1) = lr.map stR := by
  rw [List.length_cons] at h
  exact List.take_of_length_le (by rw [List.length_drop, List.length_map, List.length_cons]; omega)
theorem mor_len {z : Nat × List Pt × Int} {j : Nat} (h : j ≤ z.2.1.length) : (mor z j).length = j := by
  unfold mor; rw [List.length_map, List.length_take]; omega

end Cv
set_option maxRecDepth 10000
namespace Cv
open Go Go.Proofs
/-! ## the reference of objects and of whole paths -/
/-! ### whole paths -/
theorem at_pR (p : Pt) (a : Option Addr) (n c : Nat) : AtN 2 (inR p a n c) 0 (ptR p) := by
  rw [show inR p a n c = ptR p ++ [.slice a n c] from rfl]; exact AtN.left rfl

end Cv
