/-
  The walks: Cut, Name.
-/
import Derived.Test.YtcilkdnbbebjgaaGreatM05
import Derived.Test.YtcilkdnbbebjgaaGreatProg
import Derived.KernelRfl
set_option linter.unusedVariables false
set_option linter.unusedSimpArgs false
set_option linter.unusedSectionVars false
set_option maxRecDepth 10000
namespace Cv
open Go Go.Proofs

set_option maxHeartbeats 400000 in
theorem cut_spec {l : List UInt8} {n : Nat}  : Spec Tryz.prog 19 [S l, .int .i64 (n : Int)] [] [] (fun v D' M' => v = S (l.take n) ∧ D' = [] ∧ M' = []) := by
 refine Spec.intro (n := 13) Tryz.func19 rfl rfl (by decide) (Nat.le_of_ble_eq_true rfl) rfl (fun _ => qA) (fun _ => qA) ?_
 intro σ D M
 refine T.seq (T.region ?_)
 refine L.assign rfl rfl ?_
 refine L.nil ?_
 refine T.thenN (T.seq (T.seq (T.region ?_)))
 refine L.move rfl rfl ?_
 refine L.lenStr rfl Tryz.underlying9 rfl ?_
 refine L.move rfl rfl ?_
 refine L.gtI rfl rfl rfl ?_
 refine L.nil ?_
 refine T.thenN ?_
 refine T.cond rfl (fun h8 => ?_) (fun h8 => ?_)
 ·try simp only [dq] at h8
  refine T.seq (T.region ?_)
  refine L.move rfl rfl ?_
  refine L.move rfl rfl ?_
  refine L.sliceS (a := 0) (b := n) rfl Tryz.underlying9 rfl rfl ⟨_, (by first | rfl | (congr 2; omega))⟩ qI qI ?_
  refine L.assign rfl rfl ?_
  refine L.nil ?_
  refine T.thenN (T.ret ?_)
  refine T.thenR ?_
  exact T.ret1 rfl rfl ⟨congrArg S (by simp), rfl, rfl⟩ qD qF
 ·try simp only [dq] at h8
  refine T.skip (T.thenN (T.seq (T.region ?_)))
  refine L.move rfl rfl ?_
  refine L.assign rfl rfl ?_
  refine L.nil ?_
  refine T.thenN (T.ret ?_)
  exact T.ret1 rfl rfl ⟨congrArg S (by rw [List.take_of_length_le (by omega)]), rfl, rfl⟩ qD qF
end Cv
