/-
  The walks: what is needed is told.
-/
import Derived.Test.YtahkbpiinbepcaaGreatTb22
import Derived.Test.YtahkbpiinbepcaaGreatProg
import Derived.KernelRfl
set_option linter.unusedVariables false
set_option linter.unusedSimpArgs false
set_option linter.unusedSectionVars false
set_option maxRecDepth 10000
namespace Cv
open Go Go.Proofs
/-! ## what is needed is told -/
theorem nd_none {os : List Ob} (hu : Uni os) {n : Nat} (h : n < 8) {o : Ob} (ho : o ∈ (md n).2.2) {k m : Int} {x : ID32} (hx : x = o.2.1) (hk : o.1 = k) (e : ndB os (k, x, m) = false) : goF os x = none := by
  subst hx
  cases g : goF os o.2.1 with
  | none => rfl
  | some q =>
    have e2 := go_is hu h ho g
    have t : ndB os (k, o.2.1, m) = true := decide_eq_true ⟨getE_hit g, by show (getO os o.2.1).1 = k; rw [getO_hit g, e2]; exact hk⟩
    rw [t] at e; cases e
theorem stp_P {P : List Wnt → Prop} {g : Pt → List Wnt → List Wnt × Bool} : ∀ (l : List Pt) (s : List Wnt × Bool), (∀ q ∈ l, ∀ ws, P ws → P (g q ws).1) → P s.1 → P (l.foldl (stp g) s).1
  | [], s, _, k => k
  | q :: l, s, h, k => by
    rw [List.foldl_cons]
    exact stp_P l _ (fun q hq => h q (List.mem_cons_of_mem _ hq)) (h q (List.mem_cons_self ..) s.1 k)
/-! ### the search for a name in a text -/
end Cv
