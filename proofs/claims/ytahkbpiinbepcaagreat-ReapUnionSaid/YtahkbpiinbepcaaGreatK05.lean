/-
  The walks: Of, awake.
-/
import Derived.Test.YtahkbpiinbepcaaGreatG05
import Derived.Test.YtahkbpiinbepcaaGreatL05
import Derived.Test.YtahkbpiinbepcaaGreatProg
import Derived.KernelRfl
set_option linter.unusedVariables false
set_option linter.unusedSimpArgs false
set_option linter.unusedSectionVars false
set_option maxHeartbeats 400000
set_option maxRecDepth 10000
namespace Cv
open Go Go.Proofs

theorem Chk_spec {x : Tr} (a : Option Addr) (len cap : Nat) (hc : x.count ≤ 900000) (hs : TAll Sm x) (htl : x.t.length ≤ 20000) : Spec Tryz.prog 129 [.agg (iRow x a len cap).toArray] [rtr x (eRow x a len cap)] [] (fun v D' M' => v = .int .i64 (chkE x) ∧ D' = [] ∧ M' = []) := by
 refine zF (n := 17) Tryz.func129 ?_
 intro σ D M
 refine z6 (z8 ?_)
 refine yH rfl rfl rfl (fun b1 => ?_)
 refine z9 rfl rfl (z7 (z4 (z6 (z8 ?_))))
 refine zt rfl ag133 rfl qN ?_
 refine y4 rfl (ev2 rfl rfl) qD qS (chk_spec x a len cap 1 (by decide) (by omega) hs htl) (by rintro u D1 M1 ⟨rfl, rfl, rfl⟩; exact ⟨rfl, _, qA, qF⟩) ?_
 refine z5 rfl rfl (zW rfl rfl rfl (zW rfl rfl rfl (z9 rfl rfl (z9 rfl rfl (z7 (z4 (z6 (z6 (z8 (z5 rfl rfl ?_))))))))))
 refine yy rfl rfl rfl ?_
 refine z5 rfl rfl ?_
 refine yC (t := 12) rfl (fun h1 => ?_) (fun h1 => ?_)
 ·try simp only [dq] at h1
  refine zf (dj := 12) rfl rfl rfl (z5 rfl rfl (zf (dj := 12) rfl rfl rfl ?_))
  refine yx rfl rfl rfl ?_
  refine y7 rfl rfl rfl ?_
  refine z7 (z4 ?_)
  refine zo rfl (fun h15 => ?_) (fun h15 => ?_)
  ·try simp only [dq] at h15
   refine z6 (z8 (z9 rfl rfl (z7 (z4 (zi ?_)))))
   refine zH ?_
   exact zD rfl rfl ⟨congrArg (Value.int .i64) (by unfold chkE; simp_all <;> omega), rfl, rfl⟩ qD qF
  ·try simp only [dq] at h15
   refine zm (z4 (z6 (z8 (z5 rfl rfl (z9 rfl rfl (z7 (z4 (zi ?_))))))))
   exact zD rfl rfl ⟨congrArg (Value.int .i64) (by unfold chkE; simp_all <;> omega), rfl, rfl⟩ qD qF
 ·try simp only [dq] at h1
  refine zg (dj := 12) (c := false) rfl rfl rfl rfl rfl (by decide) (zg (dj := 12) (c := false) rfl rfl rfl rfl rfl (by decide) ?_)
  refine y8 rfl rfl rfl ?_
  refine z7 (z4 ?_)
  refine yL rfl rfl ?_
  refine zm (z4 (z6 (z8 (z5 rfl rfl (z9 rfl rfl (z7 (z4 (zi ?_))))))))
  exact zD rfl rfl ⟨congrArg (Value.int .i64) (by unfold chkE; simp_all <;> omega), rfl, rfl⟩ qD qF
end Cv
