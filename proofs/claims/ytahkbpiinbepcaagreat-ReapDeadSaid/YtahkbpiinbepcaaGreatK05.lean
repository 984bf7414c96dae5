/-
  The walks: Of, awake.
-/
import Derived.Test.YtahkbpiinbepcaaGreatG05
import Derived.Test.YtahkbpiinbepcaaGreatM05
import Derived.Test.YtahkbpiinbepcaaGreatProg
import Derived.KernelRfl
set_option linter.unusedVariables false
set_option linter.unusedSimpArgs false
set_option linter.unusedSectionVars false
set_option maxHeartbeats 400000
set_option maxRecDepth 10000
namespace Cv
open Go Go.Proofs

theorem Chk_spec {x : Tr} (a : Option Addr) (len cap : Nat) (hc : x.count ≤ 900000) (hs : TAll Sm x) (htl : x.t.length ≤ 20000) : Spec Tryz.prog 129 [.agg (iRow x a len cap).toArray] [rtr x (eRow x a len cap)] [] (fun v D' M' => v = .int .i64 (chkE x) ∧ D' = [] ∧ M' = []) := by
 refine zC (n := 17) Tryz.func129 ?_
 intro σ D M
 refine z6 (z8 (yq rfl rfl rfl (fun b1 => ?_)))
 refine z9 rfl rfl (z7 (z4 (z6 (z8 (zp rfl ag133 rfl qN ?_)))))
 refine zW rfl (ev2 rfl rfl) qD qS (chk_spec x a len cap 1 jD jO hs htl) jF ?_
 refine z5 rfl rfl (zG rfl rfl rfl (zG rfl rfl rfl (z9 rfl rfl (z9 rfl rfl (z7 (z4 (z6 (z6 (z8 (z5 rfl rfl (yj rfl rfl rfl (z5 rfl rfl (yM (t := 12) rfl (fun h1 => ?_) (fun h1 => ?_))))))))))))))
 ·try simp only [dq] at h1
  refine zf (dj := 12) rfl rfl rfl (z5 rfl rfl (zf (dj := 12) rfl rfl rfl (yB rfl rfl rfl (ye rfl rfl rfl (z7 (z4 (zo rfl (fun h15 => ?_) (fun h15 => ?_))))))))
  ·try simp only [dq] at h15
   exact z6 (z8 (z9 rfl rfl (z7 (z4 (zi (zD (zz rfl rfl ⟨congrArg (Value.int .i64) (by unfold chkE; simp_all <;> omega), rfl, rfl⟩ qD qF)))))))
  ·try simp only [dq] at h15
   exact zm (z4 (z6 (z8 (z5 rfl rfl (z9 rfl rfl (z7 (z4 (zi (zz rfl rfl ⟨congrArg (Value.int .i64) (by unfold chkE; simp_all <;> omega), rfl, rfl⟩ qD qF)))))))))
 ·try simp only [dq] at h1
  refine zg (dj := 12) (c := false) rfl rfl rfl rfl rfl jD (zg (dj := 12) (c := false) rfl rfl rfl rfl rfl jD (y5 rfl rfl rfl (z7 (z4 (ym rfl rfl ?_)))))
  exact zm (z4 (z6 (z8 (z5 rfl rfl (z9 rfl rfl (z7 (z4 (zi (zz rfl rfl ⟨congrArg (Value.int .i64) (by unfold chkE; simp_all <;> omega), rfl, rfl⟩ qD qF)))))))))
end Cv
