/-
  The walks: laws of chapter 05.
-/
import Derived.Test.YtdajpfbgikgkeaaE05
import Derived.Test.YtdajpfbgikgkeaaF05
import Derived.Test.YtdajpfbgikgkeaaK05
import Derived.Test.YtdajpfbgikgkeaaH05
import Derived.Test.YtdajpfbgikgkeaaO05
import Derived.Test.YtdajpfbgikgkeaaProg
import Derived.KernelRfl
set_option linter.unusedVariables false
set_option linter.unusedSimpArgs false
set_option linter.unusedSectionVars false
set_option maxRecDepth 10000
namespace Cv
open Go Go.Proofs

set_option maxHeartbeats 400000 in
theorem treeChecks_spec {x : Tr} (a : Option Addr) (len cap : Nat)  : Spec Try.prog 3 [.agg (iRow x a len cap).toArray] [rtr x (eRow x a len cap)] [] (fun v D' M' => v = .bool true ∧ D' = [] ∧ M' = []) := by
  refine Spec.intro (n := 23) Try.func3 rfl rfl (by decide) (Nat.le_of_ble_eq_true rfl) rfl (fun _ => qA) (fun _ => qA) ?_
  intro σ D M
  have hfc := few_count x 30 1 (by decide)
  have hsm := few_sm x 30 1
  obtain ⟨Y, hY⟩ : ∃ Y, (fewT x 30 1).1 = Y := ⟨_, rfl⟩
  have hfs := Few_spec (x := x) a len cap
  rw [hY] at hfs hfc hsm
  refine T.seq ?_
  refine T.region ?_
  refine L.box rfl rfl rfl (fun b1 => ?_)
  refine L.assign rfl rfl ?_
  refine L.nil ?_
  refine T.thenN ?_
  refine T.seq ?_
  refine T.region ?_
  refine L.loadA rfl ag24 rfl qN ?_
  refine L.call rfl (evs.cons rfl <| evs.nil) qD qS (hfs) ?_
  rintro _ _ _ ⟨fa, fl, fc, rfl, rfl, rfl⟩
  refine L.norm qA qA ?_
  refine L.storeA ag24 rfl rfl qL qO qU qW ?_
  refine L.nil ?_
  refine T.thenN ?_
  refine T.seq ?_
  refine T.region ?_
  refine L.loadA rfl ag24 rfl qN ?_
  refine L.call rfl (evs.cons rfl <| evs.nil) qD qS (Told_spec (x := Y) _ _ _ (by omega)) ?_
  rintro _ _ _ ⟨ta, tl, tc, rfl, htl, rfl, rfl⟩
  refine L.norm qA qA ?_
  refine L.ownRsl qP ?_
  refine L.assign rfl rfl ?_
  refine L.nil ?_
  refine T.thenN ?_
  refine T.seq ?_
  refine T.region ?_
  refine L.callF rfl (evs.nil) qD qS (awake_spec ) (by rintro u D1 M1 ⟨rfl, rfl, rfl⟩; exact ⟨rfl, _, qA, qF⟩) ?_
  refine L.move rfl rfl ?_
  refine L.known (t := 9) rfl (show _ = Value.bool true from rfl) ?_
  refine L.guardT (dj := 9) rfl rfl rfl ?_
  refine L.loadA rfl ag24 rfl qN ?_
  refine L.guardT (dj := 9) rfl rfl rfl ?_
  refine L.callF rfl (evs.cons rfl <| evs.nil) qD qS (Chk_spec (x := Y) _ _ _ (by omega) hsm.1 hsm.2) (by rintro u D1 M1 ⟨rfl, rfl, rfl⟩; exact ⟨rfl, _, qA, qF⟩) ?_
  refine L.guardT (dj := 9) rfl rfl rfl ?_
  refine L.move rfl rfl ?_
  refine L.guardT (dj := 9) rfl rfl rfl ?_
  refine L.callF rfl (evs.cons rfl <| evs.nil) qD qS (rchk_spec (l := toldT Y [] 1 true true) (by omega) (told_sm Y hsm.1 hsm.2)) (by rintro u D1 M1 ⟨rfl, rfl, rfl⟩; exact ⟨rfl, _, qA, qF⟩) ?_
  refine L.guardT (dj := 9) rfl rfl rfl ?_
  refine L.eqI rfl rfl rfl ?_
  refine L.pickT rfl rfl rfl ?_
  refine L.move rfl rfl ?_
  refine L.known (t := 16) rfl (show _ = Value.bool true from congrArg Value.bool (decide_eq_true (chkE_told Y))) ?_
  refine L.guardT (dj := 16) rfl rfl rfl ?_
  refine L.loadA rfl ag24 rfl qN ?_
  refine L.guardT (dj := 16) rfl rfl rfl ?_
  refine L.callF rfl (evs.cons rfl <| evs.nil) qD qS (count_spec Y _ _ _ (by omega)) (by rintro u D1 M1 ⟨rfl, rfl, rfl⟩; exact ⟨rfl, _, qA, qF⟩) ?_
  refine L.guardT (dj := 16) rfl rfl rfl ?_
  refine L.move rfl rfl ?_
  refine L.guardT (dj := 16) rfl rfl rfl ?_
  refine L.lenSl rfl Try.underlying26 rfl ?_
  refine L.guardT (dj := 16) rfl rfl rfl ?_
  refine L.eqI rfl rfl rfl ?_
  refine L.pickT rfl rfl rfl ?_
  refine L.assign rfl rfl ?_
  refine L.nil ?_
  refine T.thenN ?_
  refine T.ret ?_
  exact T.ret1 rfl rfl ⟨congrArg Value.bool (decide_eq_true (by omega)), rfl, rfl⟩ qD qF
end Cv
