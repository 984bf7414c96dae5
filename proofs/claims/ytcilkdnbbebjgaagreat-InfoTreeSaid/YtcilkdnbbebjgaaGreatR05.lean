/-
  The walks: Of.
-/
import Derived.Test.YtcilkdnbbebjgaaGreatK05
import Derived.Test.YtcilkdnbbebjgaaGreatN05
import Derived.Test.YtcilkdnbbebjgaaGreatProg
import Derived.KernelRfl
set_option linter.unusedVariables false
set_option linter.unusedSimpArgs false
set_option linter.unusedSectionVars false
set_option maxRecDepth 10000
namespace Cv
open Go Go.Proofs

set_option maxHeartbeats 400000 in
theorem of_spec2 {a : Option Addr} {len cap : Nat} {xs : List ET} (hb : len ≤ 1000000) : Spec Tryz.prog 100 [.slice a len cap] [etsA xs] [own 4 142 a len cap (xs.map eT)] (fun v D' M' => ∃ (a' : Option Addr) (cap' : Nat) (ys : List ET), v = .agg #[.int .i64 4, S [], .slice a' len cap'] ∧ (Kp cfN xs ys) ∧ ((len < 20 → ∀ tag : ET → Nat, (∀ p q, p < q → q < xs.length → tag (gd xs p) < tag (gd xs q)) → Pw (Rt cfN tag) ys len)) ∧ (ys.length = len) ∧ D' = [rtr (ofT ys) (eRow (ofT ys) a' len cap'), rsl 4 a' len cap' (ys.map eT), etsA ys] ∧ M' = [own 4 142 a len cap (xs.map eT)]) := by
 refine Spec.intro (n := 9) Tryz.func100 rfl rfl (by decide) (Nat.le_of_ble_eq_true rfl) rfl (fun _ => qA) (fun _ => qA) ?_
 intro σ D M
 refine T.seq (T.region ?_)
 refine L.alloc rfl ze24 (fun b2 => ?_)
 refine L.nil ?_
 refine T.thenN (T.seq (T.region ?_))
 refine L.move rfl rfl ?_
 refine L.callB1 rfl (evs.cons rfl <| evs.nil) qS qP (fun z H => rsl_of_own H) (eclone_spec (xs := xs) hb) ?_
 rintro _ _ _ ⟨ca, cc, rfl, rfl, rfl⟩
 refine L.norm AppL.nil qA ?_
 refine L.assign rfl rfl ?_
 refine L.nil ?_
 refine T.thenN (T.seq (T.region ?_))
 refine L.move rfl rfl ?_
 refine L.call rfl (evs.cons rfl <| evs.cons rfl <| evs.nil) qD qS (sstab_spec (g := 130) (caps := []) cfN_cmp (fun x y => of1_spec) hb) ?_
 rintro _ _ _ ⟨ys, rfl, hk, hs, rfl, rfl⟩
 refine L.norm qA qA ?_
 refine L.nil ?_
 refine T.ownRsl (rows := ys.map eT) qP ?_
 refine T.rslLen2 (rows := ys.map eT) qM (fun hyl _ => ?_)
 rw [List.length_map] at hyl
 refine T.derive (φ := etsA xs) (ψ := etsA ys) qM (etsA_sub hk.sm.2) ?_
 refine T.derive (φ := etsA ys) qM etsA_kids ?_
 refine T.trMkE (x := ofT ys) (ks := ys.map (·.1)) rfl qM qM ?_
 refine T.thenN (T.seq (T.region ?_))
 refine L.move rfl rfl ?_
 refine L.build rfl bu24 (BP.one rfl rfl rfl <| BP.skip <| BP.one rfl rfl rfl <| BP.doneE (out := []) rfl) ?_
 refine L.storeA ag24 rfl rfl qL qO qU qW ?_
 refine L.nil ?_
 refine T.thenN (T.ret ?_)
 exact T.retA rfl ag24 rfl qN ⟨_, _, _, rfl, hk, hs, hyl, rfl, rfl⟩ qD qF
end Cv
