/-
  The walks: awake.
-/
import Derived.Test.YtahkbpiinbepcaaGreatXc15
import Derived.Test.YtahkbpiinbepcaaGreatEE15
import Derived.Test.YtahkbpiinbepcaaGreatCC15
import Derived.Test.YtahkbpiinbepcaaGreatProg
import Derived.KernelRfl
import Derived.Test.YtahkbpiinbepcaaGreatCvLg
set_option linter.unusedVariables false
set_option linter.unusedSimpArgs false
set_option linter.unusedSectionVars false
set_option maxRecDepth 10000
namespace Cv
open Go Go.Proofs
/-! ## the objects of a path that are found -/
theorem go_is {os : List Ob} (hu : Uni os) {n : Nat} (h : n < 8) {o q : Ob} (ho : o ∈ (md n).2.2) (g : goF os o.2.1 = some q) : q = o := by
  obtain ⟨h1, h2⟩ := goF_mem g
  obtain ⟨m, hm, k2⟩ := hu q h1
  exact con hm h k2 ho h2
/-! ## awake -/
theorem uni_md {n : Nat} (h : n < 8) : Uni (md n).2.2 := fun o ho => ⟨n, h, ho⟩
theorem refs_0 : (md 0).2.1 = [] := by rw [md_refs (by decide)]; rfl
theorem md_3 {n : Nat} (h : n < 8) : 3 ≤ (md n).2.2.length := by
  obtain ⟨h1, h2, h3, h4⟩ := mdCh_ok h
  rw [(pth_in h).2]
  have hl : (mdP n).length = (mdCh n).length := List.length_map ..
  have hg : gN (mdP n).length = ((mdP n).length + 7) / 8 := rfl
  have hu := @upO_len 1 (mdP n)
  have : 1 ≤ (ndO (mdP n)).length := by unfold ndO; rw [List.length_append]; omega
  rw [List.length_cons, List.length_append, List.length_map]; omega

end Cv
