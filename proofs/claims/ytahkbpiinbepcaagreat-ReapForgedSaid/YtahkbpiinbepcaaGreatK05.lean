/-
  The walks: Of, awake.
-/
import Derived.Test.YtahkbpiinbepcaaGreatG05
import Derived.Test.YtahkbpiinbepcaaGreatL05
import Derived.Test.YtahkbpiinbepcaaGreatProg
import Derived.KernelRfl
set_option linter.unusedVariables false
set_option linter.unusedSimpArgs false
set_option linter.unusedSectionVars false
set_option maxHeartbeats 400000
set_option maxRecDepth 10000
namespace Cv
open Go Go.Proofs

theorem Chk_spec {x : Tr} (a : Option Addr) (len cap : Nat) (hc : x.count ≤ 900000) (hs : TAll Sm x) (htl : x.t.length ≤ 20000) : Spec Tryz.prog 129 [.agg (iRow x a len cap).toArray] [rtr x (eRow x a len cap)] [] (fun v D' M' => v = .int .i64 (chkE x) ∧ D' = [] ∧ M' = []) := by
 refine zH (n := 17) Tryz.func129 ?_
 intro σ D M
 refine z6 (z8 (yD rfl rfl rfl (fun b1 => ?_)))
 refine z9 rfl rfl (z7 (z4 (z6 (z8 (zq rfl ag133 rfl qN ?_)))))
 refine zV rfl (ev2 rfl rfl) qD qS (chk_spec x a len cap 1 (by decide) (by omega) hs htl) (by rintro u D1 M1 ⟨rfl, rfl, rfl⟩; exact ⟨rfl, _, qA, qF⟩) ?_
 refine z5 rfl rfl (zU rfl rfl rfl (zU rfl rfl rfl (z9 rfl rfl (z9 rfl rfl (z7 (z4 (z6 (z6 (z8 (z5 rfl rfl (yz rfl rfl rfl (z5 rfl rfl (yy (t := 12) rfl (fun h1 => ?_) (fun h1 => ?_))))))))))))))
 ·try simp only [dq] at h1
  refine zg (dj := 12) rfl rfl rfl (z5 rfl rfl (zg (dj := 12) rfl rfl rfl (ym rfl rfl rfl (y2 rfl rfl rfl (z7 (z4 (zp rfl (fun h15 => ?_) (fun h15 => ?_))))))))
  ·try simp only [dq] at h15
   exact z6 (z8 (z9 rfl rfl (z7 (z4 (zm (zu (zy rfl rfl ⟨congrArg (Value.int .i64) (by unfold chkE; simp_all <;> omega), rfl, rfl⟩ qD qF)))))))
  ·try simp only [dq] at h15
   exact zo (z4 (z6 (z8 (z5 rfl rfl (z9 rfl rfl (z7 (z4 (zm (zy rfl rfl ⟨congrArg (Value.int .i64) (by unfold chkE; simp_all <;> omega), rfl, rfl⟩ qD qF)))))))))
 ·try simp only [dq] at h1
  refine zh (dj := 12) (c := false) rfl rfl rfl rfl rfl (by decide) (zh (dj := 12) (c := false) rfl rfl rfl rfl rfl (by decide) (y3 rfl rfl rfl (z7 (z4 (yP rfl rfl ?_)))))
  exact zo (z4 (z6 (z8 (z5 rfl rfl (z9 rfl rfl (z7 (z4 (zm (zy rfl rfl ⟨congrArg (Value.int .i64) (by unfold chkE; simp_all <;> omega), rfl, rfl⟩ qD qF)))))))))
end Cv
