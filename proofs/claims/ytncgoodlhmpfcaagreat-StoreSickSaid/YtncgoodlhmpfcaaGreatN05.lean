/-
  The walks: the plain law of comparing trees.
-/
import Derived.Test.YtncgoodlhmpfcaaGreatM05
set_option linter.all false
set_option maxRecDepth 10000
namespace Cv
open Go Go.Proofs
/-! ## the order of trees -/
def orF : List Int → Int
  | [] => 0
  | x :: xs => if x ≠ 0 then x else orF xs
def cmpI (x y : Int) : Int := if x < y then -1 else if y < x then 1 else 0
theorem orF_drop {xs : List Int} {k : Nat} (h : k < xs.length) : orF (xs.drop k) = if gd xs k ≠ 0 then gd xs k else orF (xs.drop (k + 1)) := by
  rw [List.drop_eq_getElem_cons h]
  simp [orF, gd, h]
def lexI (c d : Int) : Int := if c ≠ 0 then c else d
theorem or2 (c d : Int) : orF [c, d] = lexI c d := by
  unfold lexI; simp only [orF]
  by_cases h : c = 0
  · by_cases h2 : d = 0 <;> simp [h, h2]
  · simp [h]
mutual
def compT : Tr → Tr → Int
  | .mk _ k t ks, b => lexI (lexI (cmpI k b.k) (cmpB t b.t)) (compL ks b.ks)
def compL : List Tr → List Tr → Int
  | [], [] => 0
  | [], _ :: _ => -1
  | _ :: _, [] => 1
  | x :: xs, y :: ys => lexI (lexI (cmpB x.n y.n) (compT x y)) (compL xs ys)
end
theorem compT_eq (a b : Tr) : compT a b = lexI (lexI (cmpI a.k b.k) (cmpB a.t b.t)) (compL a.ks b.ks) := by cases a; rw [compT]; rfl
theorem compL_nil : compL [] [] = 0 := by unfold compL; rfl
theorem compL_nc (y : Tr) (ys : List Tr) : compL [] (y :: ys) = -1 := by unfold compL; rfl
theorem compL_cn (x : Tr) (xs : List Tr) : compL (x :: xs) [] = 1 := by unfold compL; rfl
theorem compL_cc (x y : Tr) (xs ys : List Tr) : compL (x :: xs) (y :: ys) = lexI (lexI (cmpB x.n y.n) (compT x y)) (compL xs ys) := by rw [compL.eq_def]
theorem compL_step {xs ys : List Tr} {i : Nat} {x y : Tr} (hx : xs[i]? = some x) (hy : ys[i]? = some y) : compL (xs.drop i) (ys.drop i) = lexI (lexI (cmpB x.n y.n) (compT x y)) (compL (xs.drop (i + 1)) (ys.drop (i + 1))) := by
  have h1 := (List.getElem?_eq_some_iff.1 hx).1
  have h2 := (List.getElem?_eq_some_iff.1 hy).1
  have e1 : xs.drop i = x :: xs.drop (i + 1) := by
    rw [List.drop_eq_getElem_cons h1]; congr 1; exact (List.getElem?_eq_some_iff.1 hx).2
  have e2 : ys.drop i = y :: ys.drop (i + 1) := by
    rw [List.drop_eq_getElem_cons h2]; congr 1; exact (List.getElem?_eq_some_iff.1 hy).2
  rw [e1, e2, compL_cc]
theorem compL_long {xs ys : List Tr} {i : Nat} (hx : i < xs.length) (hy : ys.length ≤ i) : compL (xs.drop i) (ys.drop i) = 1 := by
  rw [List.drop_eq_getElem_cons hx, List.drop_of_length_le hy, compL_cn]
theorem compL_end {xs ys : List Tr} {i : Nat} (hx : xs.length ≤ i) : compL (xs.drop i) (ys.drop i) = if i < ys.length then -1 else 0 := by
  rw [List.drop_of_length_le hx]
  by_cases h : i < ys.length
  · rw [if_pos h, List.drop_eq_getElem_cons h, compL_nc]
  · rw [if_neg h, List.drop_of_length_le (by omega), compL_nil]
/-! ### the laws -/
theorem lexI_z {c d : Int} (h : c = 0) : lexI c d = d := by unfold lexI; rw [if_neg (by simpa using h)]
theorem lexI_nz {c d : Int} (h : ¬ c = 0) : lexI c d = c := by unfold lexI; rw [if_pos h]
/-! ### 0 just of the same -/
theorem count_mem : ∀ {ks : List Tr} {y : Tr}, y ∈ ks → y.count ≤ countL ks
  | x :: xs, y, h => by
    simp only [countL]
    rcases List.mem_cons.1 h with rfl | h
    · omega
    · have := count_mem h; omega
/-! ### signs of one byte -/
/-! ### TreeWide -/
/-! ### letters -/
end Cv
