/-
  The walks: package slices at entries.
-/
import Derived.Test.YtcilkdnbbebjgaaGreatD05
import Derived.Test.YtcilkdnbbebjgaaGreatProg
import Derived.KernelRfl
set_option linter.unusedVariables false
set_option linter.unusedSimpArgs false
set_option linter.unusedSectionVars false
set_option maxRecDepth 10000
namespace Cv
open Go Go.Proofs

set_option maxHeartbeats 400000 in
theorem eclone_spec {a : Option Addr} {len cap : Nat} {xs : List ET} (hb : len ≤ 1000000) : Spec Tryz.prog 128 [.slice a len cap] [rsl 4 a len cap (xs.map eT)] [] (fun v D' M' => ∃ (a' : Option Addr) (cap' : Nat), v = .slice a' len cap' ∧ D' = [] ∧ M' = [own 4 142 a' len cap' (xs.map eT)]) := by
 refine Spec.intro (n := 8) Tryz.func128 rfl rfl (by decide) (Nat.le_of_ble_eq_true rfl) rfl (fun _ => qA) (fun _ => qA) ?_
 intro σ D M
 refine T.rslLen2 qM (fun hl hc => ?_)
 rw [List.length_map] at hl
 refine T.seq (T.region ?_)
 refine L.assign rfl rfl ?_
 refine L.nil ?_
 refine T.thenN (T.seq (T.seq (T.region ?_)))
 refine L.move rfl rfl ?_
 refine L.eqlSl rfl Tryz.underlying22 rfl rfl ?_
 refine L.nil ?_
 refine T.thenN ?_
 refine T.cond rfl (fun h4 => ?_) (fun h4 => ?_)
 ·try simp only [dq] at h4
  obtain rfl : a = none := by simpa using h4
  refine T.rslNil qM (fun h0 => ?_)
  obtain rfl : xs = [] := by simpa using h0
  obtain rfl : len = 0 := by simpa using hl.symm
  refine T.newOwn (sz := 4) (e := 142) ?_
  refine T.eqv qP (show own 4 142 none 0 0 [] = own 4 142 none 0 0 (([] : List ET).map eT) from rfl) ?_
  refine T.seq (T.region ?_)
  refine L.assign rfl rfl ?_
  refine L.nil ?_
  refine T.thenN (T.ret ?_)
  refine T.thenR ?_
  exact T.ret1 rfl rfl ⟨_, _, rfl, rfl, rfl⟩ qD qF
 ·try simp only [dq] at h4
  refine T.skip (T.thenN (T.seq (T.region ?_)))
  refine L.buildSlice rfl bs22 (by decide) (BP.doneE (out := []) rfl) (fun b5 => ?_)
  refine L.toOwn (len := 0) qP (rows := []) (sz := 4) (by rfl) rfl (by simp) ?_
  refine L.move rfl rfl ?_
  refine L.appendR rfl Tryz.underlying22 Tryz.underlying22 el142 rfl rfl qP (rd_D qM) et_one qI qI (fun a7 c7 => ?_)
  refine L.assign rfl rfl ?_
  refine L.nil ?_
  simp only [Nat.zero_add, List.nil_append]
  refine T.thenN (T.ret ?_)
  exact T.ret1 rfl rfl ⟨_, _, rfl, rfl, rfl⟩ qD qF
end Cv
