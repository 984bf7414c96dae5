/-
  The walks: Of, awake.
-/
import Derived.Test.YtcilkdnbbebjgaaGreatG05
import Derived.Test.YtcilkdnbbebjgaaGreatL05
import Derived.Test.YtcilkdnbbebjgaaGreatProg
import Derived.KernelRfl
set_option linter.unusedVariables false
set_option linter.unusedSimpArgs false
set_option linter.unusedSectionVars false
set_option maxRecDepth 10000
namespace Cv
open Go Go.Proofs

set_option maxHeartbeats 400000 in
theorem Chk_spec {x : Tr} (a : Option Addr) (len cap : Nat) (hc : x.count ≤ 900000) (hs : TAll Sm x) (htl : x.t.length ≤ 20000) : Spec Tryz.prog 65 [.agg (iRow x a len cap).toArray] [rtr x (eRow x a len cap)] [] (fun v D' M' => v = .int .i64 (chkE x) ∧ D' = [] ∧ M' = []) := by
 refine Spec.intro (n := 17) Tryz.func65 rfl rfl (by decide) (Nat.le_of_ble_eq_true rfl) rfl (fun _ => qA) (fun _ => qA) ?_
 intro σ D M
 refine T.seq (T.region ?_)
 refine L.box rfl rfl rfl (fun b1 => ?_)
 refine L.assign rfl rfl ?_
 refine L.nil ?_
 refine T.thenN (T.seq (T.region ?_))
 refine L.loadA rfl ag24 rfl qN ?_
 refine L.callF rfl (evs.cons rfl <| evs.cons rfl <| evs.nil) qD qS (chk_spec x a len cap 1 (by decide) (by omega) hs htl) (by rintro u D1 M1 ⟨rfl, rfl, rfl⟩; exact ⟨rfl, _, qA, qF⟩) ?_
 refine L.move rfl rfl ?_
 refine L.extract rfl rfl rfl ?_
 refine L.extract rfl rfl rfl ?_
 refine L.assign rfl rfl ?_
 refine L.assign rfl rfl ?_
 refine L.nil ?_
 refine T.thenN (T.seq (T.seq (T.region ?_)))
 refine L.move rfl rfl ?_
 refine L.eqI rfl rfl rfl ?_
 refine L.move rfl rfl ?_
 refine L.part (t := 12) rfl (fun h1 => ?_) (fun h1 => ?_)
 ·try simp only [dq] at h1
  refine L.guardT (dj := 12) rfl rfl rfl ?_
  refine L.move rfl rfl ?_
  refine L.guardT (dj := 12) rfl rfl rfl ?_
  refine L.gtI rfl rfl rfl ?_
  refine L.pickT rfl rfl rfl ?_
  refine L.nil ?_
  refine T.thenN ?_
  refine T.cond rfl (fun h15 => ?_) (fun h15 => ?_)
  ·try simp only [dq] at h15
   refine T.seq (T.region ?_)
   refine L.assign rfl rfl ?_
   refine L.nil ?_
   refine T.thenN (T.ret ?_)
   refine T.thenR ?_
   exact T.ret1 rfl rfl ⟨congrArg (Value.int .i64) (by unfold chkE; simp_all <;> omega), rfl, rfl⟩ qD qF
  ·try simp only [dq] at h15
   refine T.skip (T.thenN (T.seq (T.region ?_)))
   refine L.move rfl rfl ?_
   refine L.assign rfl rfl ?_
   refine L.nil ?_
   refine T.thenN (T.ret ?_)
   exact T.ret1 rfl rfl ⟨congrArg (Value.int .i64) (by unfold chkE; simp_all <;> omega), rfl, rfl⟩ qD qF
 ·try simp only [dq] at h1
  refine L.guardF (dj := 12) (c := false) rfl rfl rfl rfl rfl (by decide) ?_
  refine L.guardF (dj := 12) (c := false) rfl rfl rfl rfl rfl (by decide) ?_
  refine L.pickF rfl rfl rfl ?_
  refine L.nil ?_
  refine T.thenN ?_
  refine T.condF rfl rfl ?_
  refine T.skip (T.thenN (T.seq (T.region ?_)))
  refine L.move rfl rfl ?_
  refine L.assign rfl rfl ?_
  refine L.nil ?_
  refine T.thenN (T.ret ?_)
  exact T.ret1 rfl rfl ⟨congrArg (Value.int .i64) (by unfold chkE; simp_all <;> omega), rfl, rfl⟩ qD qF
end Cv
