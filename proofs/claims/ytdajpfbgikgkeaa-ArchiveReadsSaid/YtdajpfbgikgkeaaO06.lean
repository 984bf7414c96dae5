/-
  The walks: ArchiveReads.
-/
import Derived.Test.YtdajpfbgikgkeaaN06
import Derived.Test.YtdajpfbgikgkeaaL06
import Derived.Test.YtdajpfbgikgkeaaProg
import Derived.KernelRfl
set_option linter.unusedVariables false
set_option linter.unusedSimpArgs false
set_option linter.unusedSectionVars false
set_option maxRecDepth 10000
namespace Cv
open Go Go.Proofs

set_option maxHeartbeats 400000 in
theorem archiveReads_spec {s : List UInt8}  : Spec Try.prog 10 [S s] [] [] (fun v D' M' => v = .bool true ∧ D' = [] ∧ M' = []) := by
  refine Spec.intro (n := 46) Try.func10 rfl rfl (by decide) (Nat.le_of_ble_eq_true rfl) rfl (fun _ => qA) (fun _ => qA) ?_
  intro σ D M
  have hl6 : (s.take 600).length ≤ 600 := by rw [List.length_take]; omega
  obtain ⟨hre, hrl⟩ := refP_eq (s.take 600)
  refine T.seq ?_
  refine T.region ?_
  refine L.assign rfl rfl ?_
  refine L.nil ?_
  refine T.thenN ?_
  refine T.seq ?_
  refine T.region ?_
  refine L.move rfl rfl ?_
  refine L.callF rfl (evs.cons rfl <| evs.cons rfl <| evs.nil) qD qS (cut_spec (n := 600)) (by rintro u D1 M1 ⟨rfl, rfl, rfl⟩; exact ⟨rfl, _, qA, qF⟩) ?_
  refine L.assign rfl rfl ?_
  refine L.nil ?_
  refine T.thenN ?_
  refine T.seq ?_
  refine T.region ?_
  refine L.move rfl rfl ?_
  refine L.call rfl (evs.cons rfl <| evs.nil) qD qS (parse_spec (s := s.take 600) (by omega)) ?_
  rintro _ _ _ ⟨pa, pl, pc, rfl, rfl, rfl⟩
  refine L.norm qA qA ?_
  refine L.move rfl rfl ?_
  refine L.extract rfl rfl rfl ?_
  refine L.extract rfl rfl rfl ?_
  refine L.alloc rfl ze24 (fun b3 => ?_)
  refine L.storeA ag24 rfl rfl qL qO qU qW ?_
  refine L.assign rfl rfl ?_
  refine L.nil ?_
  refine T.thenN ?_
  refine T.seq ?_
  refine T.region ?_
  refine L.move rfl rfl ?_
  refine L.call rfl (evs.cons rfl <| evs.nil) qD qS (rparse_spec (s := s.take 600) (by omega)) ?_
  rintro _ _ _ ⟨la, ln, lc, rfl, rfl, rfl⟩
  refine L.norm qA qA ?_
  rw [hre]
  refine L.ownRsl (rows := (refP (s.take 600)).1.map nrow) qP ?_
  refine L.move rfl rfl ?_
  refine L.extract rfl rfl rfl ?_
  refine L.extract rfl rfl rfl ?_
  refine L.assign rfl rfl ?_
  refine L.assign rfl rfl ?_
  refine L.nil ?_
  refine T.thenN ?_
  refine T.seq ?_
  refine T.seq ?_
  refine T.region ?_
  refine L.callF rfl (evs.nil) qD qS (awake6_spec) (by rintro u D1 M1 ⟨rfl, rfl, rfl⟩; exact ⟨rfl, _, qA, qF⟩) ?_
  refine L.notB rfl rfl ?_
  refine L.move rfl rfl ?_
  refine L.known (t := 21) rfl (show _ = Value.bool false from rfl) ?_
  refine L.guardT (dj := 21) rfl rfl rfl ?_
  refine L.move rfl rfl ?_
  refine L.guardT (dj := 21) rfl rfl rfl ?_
  refine L.move rfl rfl ?_
  refine L.guardT (dj := 21) rfl rfl rfl ?_
  refine L.neI rfl rfl rfl ?_
  refine L.pickF rfl rfl rfl ?_
  refine L.nil ?_
  refine T.thenN ?_
  refine T.condF rfl (decide_eq_false (fun q => q rfl)) ?_
  refine T.skip ?_
  refine T.thenN ?_
  refine T.seq ?_
  refine T.seq ?_
  refine T.region ?_
  refine L.move rfl rfl ?_
  refine L.neI rfl rfl rfl ?_
  refine L.nil ?_
  refine T.thenN ?_
  refine T.cond rfl (fun h27 => ?_) (fun h27 => ?_)
  · try simp only [decide_eq_true_eq, decide_eq_false_iff_not, Bool.not_eq_true', Bool.not_eq_false', Bool.and_eq_true, Bool.or_eq_true] at h27
    have hpb := par_bad (s := s.take 600) h27
    have hb1 : (parF (s.take 600)).1.k = 0 := by rw [hpb]; rfl
    have hb2 : (parF (s.take 600)).1.t = [] := by rw [hpb]; rfl
    have hb3 : (parF (s.take 600)).1.ks.length = 0 := by rw [hpb]; rfl
    refine T.trOpenR (x := (parF (s.take 600)).1) qM (fun rows hkl hrl2 => ?_)
    refine T.seq ?_
    refine T.region ?_
    first | refine L.field0 rfl fo24_0 rfl ?_ | refine L.field rfl fo24_0 rfl ?_
    refine L.load rfl sc3 rfl qC ?_
    refine L.eqI rfl rfl rfl ?_
    refine L.move rfl rfl ?_
    refine L.known (t := 31) rfl (show _ = Value.bool true from congrArg Value.bool (decide_eq_true hb1)) ?_
    refine L.guardT (dj := 31) rfl rfl rfl ?_
    first | refine L.field0 rfl fo24_1 rfl ?_ | refine L.field rfl fo24_1 rfl ?_
    refine L.guardT (dj := 31) rfl rfl rfl ?_
    refine L.load rfl sc9 rfl qC ?_
    refine L.guardT (dj := 31) rfl rfl rfl ?_
    refine L.eqS rfl rfl rfl ?_
    refine L.pickT rfl rfl rfl ?_
    refine L.move rfl rfl ?_
    refine L.known (t := 36) rfl (show _ = Value.bool true from congrArg Value.bool (decide_eq_true hb2)) ?_
    refine L.guardT (dj := 36) rfl rfl rfl ?_
    first | refine L.field0 rfl fo24_2 rfl ?_ | refine L.field rfl fo24_2 rfl ?_
    refine L.guardT (dj := 36) rfl rfl rfl ?_
    refine L.load rfl sc22 rfl qC ?_
    refine L.guardT (dj := 36) rfl rfl rfl ?_
    refine L.lenSl rfl Try.underlying22 rfl ?_
    refine L.guardT (dj := 36) rfl rfl rfl ?_
    refine L.eqI rfl rfl rfl ?_
    refine L.pickT rfl rfl rfl ?_
    refine L.assign rfl rfl ?_
    refine L.nil ?_
    refine T.thenN ?_
    refine T.ret ?_
    refine T.thenR ?_
    exact T.ret1 rfl rfl ⟨congrArg Value.bool (decide_eq_true (by omega)), rfl, rfl⟩ qD qF
  · try simp only [decide_eq_true_eq, decide_eq_false_iff_not, Bool.not_eq_true', Bool.not_eq_false', Bool.and_eq_true, Bool.or_eq_true] at h27
    have hp0 : (parF (s.take 600)).2 = 0 := Decidable.not_not.1 h27
    have hps := par_sm hp0
    have hpc := hps.1
    have hle := hrl hp0
    refine T.skip ?_
    refine T.thenN ?_
    refine T.seq ?_
    refine T.region ?_
    refine L.loadA rfl ag24 rfl qN ?_
    refine L.call rfl (evs.cons rfl <| evs.nil) qD qS (Told_spec (x := (parF (s.take 600)).1) pa pl pc (by omega)) ?_
    rintro _ _ _ ⟨ta, tl, tc, rfl, htl, rfl, rfl⟩
    refine L.norm qA qA ?_
    refine L.ownRsl (rows := (toldT (parF (s.take 600)).1 [] 1 true true).map nrow) qP ?_
    refine L.move rfl rfl ?_
    refine L.callF rfl (evs.cons rfl <| evs.cons rfl <| evs.nil) qD qS (rsame_spec (l := toldT (parF (s.take 600)).1 [] 1 true true) (l2 := (refP (s.take 600)).1) (by omega)) (by rintro u D1 M1 ⟨rfl, rfl, rfl⟩; exact ⟨rfl, _, qA, qF⟩) ?_
    refine L.assign rfl rfl ?_
    refine L.nil ?_
    refine T.thenN ?_
    refine T.ret ?_
    exact T.ret1 rfl rfl ⟨congrArg Value.bool (decide_eq_true (by rw [hle])), rfl, rfl⟩ qD qF
end Cv
