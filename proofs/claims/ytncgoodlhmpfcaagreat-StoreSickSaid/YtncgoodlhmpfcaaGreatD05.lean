/-
  The walks: Cut, Name.
-/
import Derived.Test.YtncgoodlhmpfcaaGreatM05
set_option linter.all false
set_option maxHeartbeats 400000
set_option maxRecDepth 10000
namespace Cv
open Go Go.Proofs

theorem cut_spec {l : List UInt8} {n : Nat}  : Spec Tryz.prog 40 [S l, .int .i64 (n : Int)] [] [] (fun v D' M' => v = S (l.take n) ∧ D' = [] ∧ M' = []) := by
 refine zv (n := 13) Tryz.func40 ?_
 intro σ D M
 refine O (V R R (I (ze (O (E R R (yL R ye R (E R R (yy R R R (I (zA R (fun h8 => ?_) (fun h8 => ?_)))))))))))
 ·try simp only [dq] at h8
  refine O (E R R (E R R (L.sliceS (a := 0) (b := n) R ye R R ⟨_, (by first | rfl | (congr 2; omega))⟩ qI qI ?_)))
  exact V R R (I (zo (zL (zy R R ⟨congrArg S (by simp), R, R⟩ qD qF))))
 try simp only [dq] at h8
 exact zq (z8 (O (E R R (V R R (I (zo (zy R R ⟨congrArg S (by rw [List.take_of_length_le jO]), R, R⟩ qD qF)))))))
end Cv
