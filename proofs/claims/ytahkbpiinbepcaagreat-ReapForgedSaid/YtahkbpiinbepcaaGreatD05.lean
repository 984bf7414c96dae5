/-
  The walks: Cut, Name.
-/
import Derived.Test.YtahkbpiinbepcaaGreatM05
import Derived.Test.YtahkbpiinbepcaaGreatProg
import Derived.KernelRfl
set_option linter.unusedVariables false
set_option linter.unusedSimpArgs false
set_option linter.unusedSectionVars false
set_option maxHeartbeats 400000
set_option maxRecDepth 10000
namespace Cv
open Go Go.Proofs

theorem cut_spec {l : List UInt8} {n : Nat}  : Spec Tryz.prog 23 [S l, .int .i64 (n : Int)] [] [] (fun v D' M' => v = S (l.take n) ∧ D' = [] ∧ M' = []) := by
 refine zH (n := 13) Tryz.func23 ?_
 intro σ D M
 refine z6 (z8 (z9 rfl rfl (z7 (z4 (z6 (z6 (z8 (z5 rfl rfl (yX rfl yp rfl (z5 rfl rfl (ym rfl rfl rfl (z7 (z4 (zp rfl (fun h8 => ?_) (fun h8 => ?_)))))))))))))))
 ·try simp only [dq] at h8
  refine z6 (z8 (z5 rfl rfl (z5 rfl rfl (L.sliceS (a := 0) (b := n) rfl yp rfl rfl ⟨_, (by first | rfl | (congr 2; omega))⟩ qI qI ?_))))
  exact z9 rfl rfl (z7 (z4 (zm (zu (zy rfl rfl ⟨congrArg S (by simp), rfl, rfl⟩ qD qF)))))
 ·try simp only [dq] at h8
  exact zo (z4 (z6 (z8 (z5 rfl rfl (z9 rfl rfl (z7 (z4 (zm (zy rfl rfl ⟨congrArg S (by rw [List.take_of_length_le (by omega)]), rfl, rfl⟩ qD qF)))))))))
end Cv
