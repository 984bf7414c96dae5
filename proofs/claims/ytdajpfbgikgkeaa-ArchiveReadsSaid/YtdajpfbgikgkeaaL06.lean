/-
  The walks: laws of chapter 06.
-/
import Derived.Test.YtdajpfbgikgkeaaK06
import Derived.Test.YtdajpfbgikgkeaaE05
import Derived.Test.YtdajpfbgikgkeaaF05
import Derived.Test.YtdajpfbgikgkeaaH05
import Derived.Test.YtdajpfbgikgkeaaW05
import Derived.Test.YtdajpfbgikgkeaaP05
import Derived.Test.YtdajpfbgikgkeaaProg
import Derived.KernelRfl
set_option linter.unusedVariables false
set_option linter.unusedSimpArgs false
set_option linter.unusedSectionVars false
set_option maxRecDepth 10000
namespace Cv
open Go Go.Proofs

set_option maxHeartbeats 400000 in
theorem archiveWrites_spec {x : Tr} (a : Option Addr) (len cap : Nat)  : Spec Try.prog 9 [.agg (iRow x a len cap).toArray] [rtr x (eRow x a len cap)] [] (fun v D' M' => v = .bool true ∧ D' = [] ∧ M' = []) := by
  refine Spec.intro (n := 55) Try.func9 rfl rfl (by decide) (Nat.le_of_ble_eq_true rfl) rfl (fun _ => qA) (fun _ => qA) ?_
  intro σ D M
  have hfc := few_count x 30 1 (by decide)
  have hsm := few_sm x 30 1
  obtain ⟨Y, hY⟩ : ∃ Y, (fewT x 30 1).1 = Y := ⟨_, rfl⟩
  have hfs := Few_spec (x := x) a len cap
  rw [hY] at hfs hfc hsm
  refine T.seq ?_
  refine T.region ?_
  refine L.box rfl rfl rfl (fun b1 => ?_)
  refine L.assign rfl rfl ?_
  refine L.nil ?_
  refine T.thenN ?_
  refine T.seq ?_
  refine T.region ?_
  refine L.loadA rfl ag24 rfl qN ?_
  refine L.call rfl (evs.cons rfl <| evs.nil) qD qS (hfs) ?_
  rintro _ _ _ ⟨fa, fl, fc, rfl, rfl, rfl⟩
  refine L.norm qA qA ?_
  refine L.storeA ag24 rfl rfl qL qO qU qW ?_
  refine L.nil ?_
  refine T.thenN ?_
  refine T.seq ?_
  refine T.region ?_
  refine L.loadA rfl ag24 rfl qN ?_
  refine L.call rfl (evs.cons rfl <| evs.nil) qD qS (Told_spec (x := Y) _ _ _ (by omega)) ?_
  rintro _ _ _ ⟨ta, tl, tc, rfl, htl, rfl, rfl⟩
  refine L.norm qA qA ?_
  refine L.ownRsl qP ?_
  refine L.assign rfl rfl ?_
  refine L.nil ?_
  refine T.thenN ?_
  refine T.seq ?_
  refine T.region ?_
  refine L.loadA rfl ag24 rfl qN ?_
  refine L.callF rfl (evs.cons rfl <| evs.nil) qD qS (write_spec (x := Y) _ _ _ (by omega) hsm.1 hsm.2) (by rintro u D1 M1 ⟨rfl, rfl, rfl⟩; exact ⟨rfl, _, qA, qF⟩) ?_
  refine L.move rfl rfl ?_
  refine L.extract rfl rfl rfl ?_
  refine L.extract rfl rfl rfl ?_
  refine L.assign rfl rfl ?_
  refine L.assign rfl rfl ?_
  refine L.nil ?_
  refine T.thenN ?_
  refine T.seq ?_
  refine T.seq ?_
  refine T.region ?_
  refine L.callF rfl (evs.nil) qD qS (awake6_spec) (by rintro u D1 M1 ⟨rfl, rfl, rfl⟩; exact ⟨rfl, _, qA, qF⟩) ?_
  refine L.notB rfl rfl ?_
  refine L.nil ?_
  refine T.thenN ?_
  refine T.condF rfl rfl ?_
  refine T.skip ?_
  refine T.thenN ?_
  refine T.seq ?_
  refine T.seq ?_
  refine T.region ?_
  refine L.move rfl rfl ?_
  refine L.callF rfl (evs.cons rfl <| evs.nil) qD qS (rchk_spec (l := toldT Y [] 1 true true) (by omega) (told_sm Y hsm.1 hsm.2)) (by rintro u D1 M1 ⟨rfl, rfl, rfl⟩; exact ⟨rfl, _, qA, qF⟩) ?_
  rw [← chkE_told Y]
  refine L.assign rfl rfl ?_
  refine L.nil ?_
  refine T.thenN ?_
  refine T.seq ?_
  refine T.region ?_
  refine L.move rfl rfl ?_
  refine L.neI rfl rfl rfl ?_
  refine L.nil ?_
  refine T.thenN ?_
  refine T.cond rfl (fun h22 => ?_) (fun h22 => ?_)
  · try simp only [decide_eq_true_eq, decide_eq_false_iff_not, Bool.not_eq_true', Bool.not_eq_false', Bool.and_eq_true, Bool.or_eq_true] at h22
    have hw := wr_bad (x := Y) h22
    refine T.seq ?_
    refine T.region ?_
    refine L.move rfl rfl ?_
    refine L.move rfl rfl ?_
    refine L.eqI rfl rfl rfl ?_
    refine L.move rfl rfl ?_
    refine L.known (t := 26) rfl (show _ = Value.bool true from congrArg Value.bool (decide_eq_true hw.2)) ?_
    refine L.guardT (dj := 26) rfl rfl rfl ?_
    refine L.move rfl rfl ?_
    refine L.guardT (dj := 26) rfl rfl rfl ?_
    refine L.eqS rfl rfl rfl ?_
    refine L.pickT rfl rfl rfl ?_
    refine L.assign rfl rfl ?_
    refine L.nil ?_
    refine T.thenN ?_
    refine T.ret ?_
    refine T.thenR ?_
    exact T.ret1 rfl rfl ⟨congrArg Value.bool (decide_eq_true hw.1), rfl, rfl⟩ qD qF
  · try simp only [decide_eq_true_eq, decide_eq_false_iff_not, Bool.not_eq_true', Bool.not_eq_false', Bool.and_eq_true, Bool.or_eq_true] at h22
    have hce : chkE Y = 0 := Decidable.not_not.1 h22
    have hml : (mark ++ putT Y).length = 4 + (putT Y).length := by rw [List.length_append]; rfl
    refine T.skip ?_
    refine T.thenN ?_
    refine T.seq ?_
    refine T.region ?_
    refine L.move rfl rfl ?_
    refine L.callF rfl (evs.cons rfl <| evs.nil) qD qS (text_spec (l := toldT Y [] 1 true true) (by omega) (told_props hsm.1 hsm.2 hce)) (by rintro u D1 M1 ⟨rfl, rfl, rfl⟩; exact ⟨rfl, _, qA, qF⟩) ?_
    rw [text_told (chkE_T hce)]
    refine L.assign rfl rfl ?_
    refine L.nil ?_
    refine T.thenN ?_
    refine T.seq ?_
    refine T.seq ?_
    refine T.region ?_
    refine L.move rfl rfl ?_
    refine L.lenStr rfl Try.underlying9 rfl ?_
    refine L.gtI rfl rfl rfl ?_
    refine L.nil ?_
    refine T.thenN ?_
    refine T.cond rfl (fun h34 => ?_) (fun h34 => ?_)
    · try simp only [decide_eq_true_eq, decide_eq_false_iff_not, Bool.not_eq_true', Bool.not_eq_false', Bool.and_eq_true, Bool.or_eq_true] at h34
      have hw := wr_big (x := Y) hce (by omega)
      refine T.seq ?_
      refine T.region ?_
      refine L.move rfl rfl ?_
      refine L.eqI rfl rfl rfl ?_
      refine L.move rfl rfl ?_
      refine L.known (t := 37) rfl (show _ = Value.bool true from congrArg Value.bool (decide_eq_true hw.2)) ?_
      refine L.guardT (dj := 37) rfl rfl rfl ?_
      refine L.move rfl rfl ?_
      refine L.guardT (dj := 37) rfl rfl rfl ?_
      refine L.eqS rfl rfl rfl ?_
      refine L.pickT rfl rfl rfl ?_
      refine L.assign rfl rfl ?_
      refine L.nil ?_
      refine T.thenN ?_
      refine T.ret ?_
      refine T.thenR ?_
      exact T.ret1 rfl rfl ⟨congrArg Value.bool (decide_eq_true hw.1), rfl, rfl⟩ qD qF
    · try simp only [decide_eq_true_eq, decide_eq_false_iff_not, Bool.not_eq_true', Bool.not_eq_false', Bool.and_eq_true, Bool.or_eq_true] at h34
      have hw := wr_ok (x := Y) hce (by omega)
      refine T.skip ?_
      refine T.thenN ?_
      refine T.seq ?_
      refine T.region ?_
      refine L.move rfl rfl ?_
      refine L.eqI rfl rfl rfl ?_
      refine L.move rfl rfl ?_
      refine L.known (t := 43) rfl (show _ = Value.bool true from congrArg Value.bool (decide_eq_true hw.2)) ?_
      refine L.guardT (dj := 43) rfl rfl rfl ?_
      refine L.move rfl rfl ?_
      refine L.guardT (dj := 43) rfl rfl rfl ?_
      refine L.move rfl rfl ?_
      refine L.guardT (dj := 43) rfl rfl rfl ?_
      refine L.eqS rfl rfl rfl ?_
      refine L.pickT rfl rfl rfl ?_
      refine L.move rfl rfl ?_
      refine L.known (t := 48) rfl (show _ = Value.bool true from congrArg Value.bool (decide_eq_true hw.1)) ?_
      refine L.guardT (dj := 48) rfl rfl rfl ?_
      refine L.loadA rfl ag24 rfl qN ?_
      refine L.guardT (dj := 48) rfl rfl rfl ?_
      refine L.callF rfl (evs.cons rfl <| evs.nil) qD qS (size_spec (x := Y) _ _ _ (by omega) hce) (by rintro u D1 M1 ⟨rfl, rfl, rfl⟩; exact ⟨rfl, _, qA, qF⟩) ?_
      refine L.guardT (dj := 48) rfl rfl rfl ?_
      refine L.move rfl rfl ?_
      refine L.guardT (dj := 48) rfl rfl rfl ?_
      refine L.lenStr rfl Try.underlying9 rfl ?_
      refine L.guardT (dj := 48) rfl rfl rfl ?_
      refine L.eqI rfl rfl rfl ?_
      refine L.pickT rfl rfl rfl ?_
      refine L.assign rfl rfl ?_
      refine L.nil ?_
      refine T.thenN ?_
      refine T.ret ?_
      exact T.ret1 rfl rfl ⟨congrArg Value.bool (decide_eq_true (by omega)), rfl, rfl⟩ qD qF
set_option maxHeartbeats 400000 in
theorem archiveOne_spec {s : List UInt8}  : Spec Try.prog 11 [S s] [] [] (fun v D' M' => v = .bool true ∧ D' = [] ∧ M' = []) := by
  refine Spec.intro (n := 30) Try.func11 rfl rfl (by decide) (Nat.le_of_ble_eq_true rfl) rfl (fun _ => qA) (fun _ => qA) ?_
  intro σ D M
  have hl6 : (s.take 600).length ≤ 600 := by rw [List.length_take]; omega
  refine T.seq ?_
  refine T.region ?_
  refine L.assign rfl rfl ?_
  refine L.nil ?_
  refine T.thenN ?_
  refine T.seq ?_
  refine T.region ?_
  refine L.move rfl rfl ?_
  refine L.callF rfl (evs.cons rfl <| evs.cons rfl <| evs.nil) qD qS (cut_spec (n := 600)) (by rintro u D1 M1 ⟨rfl, rfl, rfl⟩; exact ⟨rfl, _, qA, qF⟩) ?_
  refine L.assign rfl rfl ?_
  refine L.nil ?_
  refine T.thenN ?_
  refine T.seq ?_
  refine T.region ?_
  refine L.move rfl rfl ?_
  refine L.call rfl (evs.cons rfl <| evs.nil) qD qS (parse_spec (s := s.take 600) (by omega)) ?_
  rintro _ _ _ ⟨pa, pl, pc, rfl, rfl, rfl⟩
  refine L.norm qA qA ?_
  refine L.move rfl rfl ?_
  refine L.extract rfl rfl rfl ?_
  refine L.extract rfl rfl rfl ?_
  refine L.alloc rfl ze24 (fun b3 => ?_)
  refine L.storeA ag24 rfl rfl qL qO qU qW ?_
  refine L.assign rfl rfl ?_
  refine L.nil ?_
  refine T.thenN ?_
  refine T.seq ?_
  refine T.seq ?_
  refine T.region ?_
  refine L.callF rfl (evs.nil) qD qS (awake6_spec) (by rintro u D1 M1 ⟨rfl, rfl, rfl⟩; exact ⟨rfl, _, qA, qF⟩) ?_
  refine L.notB rfl rfl ?_
  refine L.nil ?_
  refine T.thenN ?_
  refine T.condF rfl rfl ?_
  refine T.skip ?_
  refine T.thenN ?_
  refine T.seq ?_
  refine T.seq ?_
  refine T.region ?_
  refine L.move rfl rfl ?_
  refine L.neI rfl rfl rfl ?_
  refine L.nil ?_
  refine T.thenN ?_
  refine T.cond rfl (fun h17 => ?_) (fun h17 => ?_)
  · try simp only [decide_eq_true_eq, decide_eq_false_iff_not, Bool.not_eq_true', Bool.not_eq_false', Bool.and_eq_true, Bool.or_eq_true] at h17
    refine T.seq ?_
    refine T.region ?_
    refine L.assign rfl rfl ?_
    refine L.nil ?_
    refine T.thenN ?_
    refine T.ret ?_
    refine T.thenR ?_
    exact T.ret1 rfl rfl ⟨rfl, rfl, rfl⟩ qD qF
  · try simp only [decide_eq_true_eq, decide_eq_false_iff_not, Bool.not_eq_true', Bool.not_eq_false', Bool.and_eq_true, Bool.or_eq_true] at h17
    have hpe : (parF (s.take 600)).2 = 0 := Decidable.not_not.1 h17
    have hps := par_sm hpe
    have hpc := hps.1
    have hw := one_ok hl6 hpe
    refine T.skip ?_
    refine T.thenN ?_
    refine T.seq ?_
    refine T.region ?_
    refine L.loadA rfl ag24 rfl qN ?_
    refine L.callF rfl (evs.cons rfl <| evs.nil) qD qS (write_spec (x := (parF (s.take 600)).1) _ _ _ (by omega) hps.2.1 hps.2.2) (by rintro u D1 M1 ⟨rfl, rfl, rfl⟩; exact ⟨rfl, _, qA, qF⟩) ?_
    refine L.move rfl rfl ?_
    refine L.extract rfl rfl rfl ?_
    refine L.extract rfl rfl rfl ?_
    refine L.assign rfl rfl ?_
    refine L.assign rfl rfl ?_
    refine L.nil ?_
    refine T.thenN ?_
    refine T.seq ?_
    refine T.region ?_
    refine L.move rfl rfl ?_
    refine L.eqI rfl rfl rfl ?_
    refine L.move rfl rfl ?_
    refine L.known (t := 25) rfl (show _ = Value.bool true from congrArg Value.bool (decide_eq_true hw.2)) ?_
    refine L.guardT (dj := 25) rfl rfl rfl ?_
    refine L.move rfl rfl ?_
    refine L.guardT (dj := 25) rfl rfl rfl ?_
    refine L.move rfl rfl ?_
    refine L.guardT (dj := 25) rfl rfl rfl ?_
    refine L.eqS rfl rfl rfl ?_
    refine L.pickT rfl rfl rfl ?_
    refine L.assign rfl rfl ?_
    refine L.nil ?_
    refine T.thenN ?_
    refine T.ret ?_
    exact T.ret1 rfl rfl ⟨congrArg Value.bool (decide_eq_true hw.1), rfl, rfl⟩ qD qF
set_option maxHeartbeats 400000 in
theorem archiveBack_spec {x : Tr} (a : Option Addr) (len cap : Nat) {n : Int}  : Spec Try.prog 12 [.agg (iRow x a len cap).toArray, .int .i64 n] [rtr x (eRow x a len cap)] [] (fun v D' M' => v = .bool true ∧ D' = [] ∧ M' = []) := by
  refine Spec.intro (n := 71) Try.func12 rfl rfl (by decide) (Nat.le_of_ble_eq_true rfl) rfl (fun _ => qA) (fun _ => qA) ?_
  intro σ D M
  refine T.seq ?_
  refine T.region ?_
  refine L.box rfl rfl rfl (fun b2 => ?_)
  refine L.assign rfl rfl ?_
  refine L.nil ?_
  refine T.thenN ?_
  refine T.seq ?_
  refine T.region ?_
  refine L.loadA rfl ag24 rfl qN ?_
  refine L.call rfl (evs.cons rfl <| evs.nil) qD qS (Right_spec (x := x) a len cap) ?_
  rintro _ _ _ ⟨Y, ya, yl, yc, rfl, hyo, rfl, rfl⟩
  refine L.norm qA qA ?_
  have hyc := hyo.2.1
  have hyw := small_wr hyo.1 hyo.2.1 hyo.2.2.2.2.1 hyo.2.2.2.2.2
  have hml : (mark ++ putT Y).length = 4 + (putT Y).length := by rw [List.length_append]; rfl
  refine L.storeA ag24 rfl rfl qL qO qU qW ?_
  refine L.nil ?_
  refine T.thenN ?_
  refine T.seq ?_
  refine T.region ?_
  refine L.loadA rfl ag24 rfl qN ?_
  refine L.callF rfl (evs.cons rfl <| evs.nil) qD qS (write_spec (x := Y) _ _ _ (by omega) hyo.2.2.1 hyo.2.2.2.1) (by rintro u D1 M1 ⟨rfl, rfl, rfl⟩; exact ⟨rfl, _, qA, qF⟩) ?_
  rw [hyw.1, hyw.2.1]
  refine L.move rfl rfl ?_
  refine L.extract rfl rfl rfl ?_
  refine L.extract rfl rfl rfl ?_
  refine L.assign rfl rfl ?_
  refine L.assign rfl rfl ?_
  refine L.nil ?_
  refine T.thenN ?_
  refine T.seq ?_
  refine T.region ?_
  refine L.move rfl rfl ?_
  refine L.call rfl (evs.cons rfl <| evs.nil) qD qS (parse_spec (s := mark ++ putT Y) (by omega)) ?_
  rintro _ _ _ ⟨pa, pl, pc, rfl, rfl, rfl⟩
  refine L.norm qA qA ?_
  rw [par_put hyo.1 (by omega)]
  refine L.move rfl rfl ?_
  refine L.extract rfl rfl rfl ?_
  refine L.extract rfl rfl rfl ?_
  refine L.alloc rfl ze24 (fun b7 => ?_)
  refine L.storeA ag24 rfl rfl qL qO qU qW ?_
  refine L.assign rfl rfl ?_
  refine L.nil ?_
  refine T.thenN ?_
  refine T.seq ?_
  refine T.seq ?_
  refine T.region ?_
  refine L.callF rfl (evs.nil) qD qS (awake6_spec) (by rintro u D1 M1 ⟨rfl, rfl, rfl⟩; exact ⟨rfl, _, qA, qF⟩) ?_
  refine L.notB rfl rfl ?_
  refine L.move rfl rfl ?_
  refine L.known (t := 27) rfl (show _ = Value.bool false from rfl) ?_
  refine L.guardT (dj := 27) rfl rfl rfl ?_
  refine L.move rfl rfl ?_
  refine L.guardT (dj := 27) rfl rfl rfl ?_
  refine L.neI rfl rfl rfl ?_
  refine L.pickF rfl rfl rfl ?_
  refine L.move rfl rfl ?_
  refine L.known (t := 31) rfl (show _ = Value.bool false from rfl) ?_
  refine L.guardT (dj := 31) rfl rfl rfl ?_
  refine L.move rfl rfl ?_
  refine L.guardT (dj := 31) rfl rfl rfl ?_
  refine L.neI rfl rfl rfl ?_
  refine L.pickF rfl rfl rfl ?_
  refine L.move rfl rfl ?_
  refine L.known (t := 35) rfl (show _ = Value.bool false from rfl) ?_
  refine L.guardT (dj := 35) rfl rfl rfl ?_
  refine L.loadA rfl ag24 rfl qN ?_
  refine L.guardT (dj := 35) rfl rfl rfl ?_
  refine L.loadA rfl ag24 rfl qN ?_
  refine L.guardT (dj := 35) rfl rfl rfl ?_
  refine L.callF rfl (evs.cons rfl <| evs.cons rfl <| evs.nil) qD qS (same_spec (x := Y) (z := Y.named []) (by omega)) (by rintro u D1 M1 ⟨rfl, rfl, rfl⟩; exact ⟨rfl, _, qA, qF⟩) ?_
  refine L.guardT (dj := 35) rfl rfl rfl ?_
  refine L.notB rfl rfl ?_
  refine L.pickF rfl rfl rfl ?_
  refine L.move rfl rfl ?_
  refine L.known (t := 41) rfl (show _ = Value.bool false from congrArg Value.bool (by rw [named_same]; rfl)) ?_
  refine L.guardT (dj := 41) rfl rfl rfl ?_
  refine L.move rfl rfl ?_
  refine L.guardT (dj := 41) rfl rfl rfl ?_
  refine L.lenStr rfl Try.underlying9 rfl ?_
  refine L.guardT (dj := 41) rfl rfl rfl ?_
  refine L.eqI rfl rfl rfl ?_
  refine L.pickF rfl rfl rfl ?_
  refine L.nil ?_
  refine T.thenN ?_
  refine T.condF rfl (decide_eq_false (by omega)) ?_
  refine T.skip ?_
  refine T.thenN ?_
  refine T.seq ?_
  obtain ⟨nn, hnn, hnl⟩ := min_nn (n := n) (k := (mark ++ putT Y).length) (by omega)
  refine T.region ?_
  refine L.move rfl rfl ?_
  refine L.maxI rfl rfl rfl ?_
  refine L.move rfl rfl ?_
  refine L.lenStr rfl Try.underlying9 rfl ?_
  refine L.subN rfl rfl rfl (by omega) ?_
  refine L.minI rfl rfl rfl ?_
  rw [hnn]
  refine L.assign rfl rfl ?_
  refine L.nil ?_
  refine T.thenN ?_
  refine T.seq ?_
  refine T.region ?_
  refine L.move rfl rfl ?_
  refine L.move rfl rfl ?_
  refine L.sliceS (a := 0) (b := nn) rfl Try.underlying9 rfl rfl ⟨_, (by first | rfl | (congr 2; omega))⟩ qI qI ?_
  refine L.call rfl (evs.cons rfl <| evs.nil) qD qS (parse_spec (s := (mark ++ putT Y).take nn) (by rw [List.length_take]; omega)) ?_
  rintro _ _ _ ⟨pa2, pl2, pc2, rfl, rfl, rfl⟩
  refine L.norm qA qA ?_
  refine L.move rfl rfl ?_
  refine L.extract rfl rfl rfl ?_
  refine L.extract rfl rfl rfl ?_
  refine L.alloc rfl ze24 (fun b9 => ?_)
  refine L.storeA ag24 rfl rfl qL qO qU qW ?_
  refine L.assign rfl rfl ?_
  refine L.nil ?_
  refine T.thenN ?_
  refine T.seq ?_
  refine T.region ?_
  refine L.move rfl rfl ?_
  refine L.addS rfl rfl rfl qI ?_
  refine L.call rfl (evs.cons rfl <| evs.nil) qD qS (parse_spec (s := mark ++ putT Y ++ [0]) (by rw [List.length_append]; simp only [List.length_cons, List.length_nil]; omega)) ?_
  rintro _ _ _ ⟨pa3, pl3, pc3, rfl, rfl, rfl⟩
  refine L.norm qA qA ?_
  refine L.move rfl rfl ?_
  refine L.extract rfl rfl rfl ?_
  refine L.extract rfl rfl rfl ?_
  refine L.alloc rfl ze24 (fun b11 => ?_)
  refine L.storeA ag24 rfl rfl qL qO qU qW ?_
  refine L.assign rfl rfl ?_
  refine L.nil ?_
  refine T.thenN ?_
  refine T.seq ?_
  refine T.region ?_
  refine L.move rfl rfl ?_
  refine L.neI rfl rfl rfl ?_
  refine L.move rfl rfl ?_
  refine L.known (t := 67) rfl (show _ = Value.bool true from congrArg Value.bool (decide_eq_true (back_1 hyo.1 hnl))) ?_
  refine L.guardT (dj := 67) rfl rfl rfl ?_
  refine L.move rfl rfl ?_
  refine L.guardT (dj := 67) rfl rfl rfl ?_
  refine L.neI rfl rfl rfl ?_
  refine L.pickT rfl rfl rfl ?_
  refine L.assign rfl rfl ?_
  refine L.nil ?_
  refine T.thenN ?_
  refine T.ret ?_
  exact T.ret1 rfl rfl ⟨congrArg Value.bool (decide_eq_true (back_2 hyo.1 (by omega))), rfl, rfl⟩ qD qF
set_option maxHeartbeats 400000 in
theorem archiveApart_spec {x z : Tr} {a a2 : Option Addr} {len cap len2 cap2 : Nat}  : Spec Try.prog 13 [.agg (iRow x a len cap).toArray, .agg (iRow z a2 len2 cap2).toArray] [rtr x (eRow x a len cap), rtr z (eRow z a2 len2 cap2)] [] (fun v D' M' => v = .bool true ∧ D' = [] ∧ M' = []) := by
  refine Spec.intro (n := 41) Try.func13 rfl rfl (by decide) (Nat.le_of_ble_eq_true rfl) rfl (fun _ => qA) (fun _ => qA) ?_
  intro σ D M
  refine T.seq ?_
  refine T.region ?_
  refine L.box rfl rfl rfl (fun b2 => ?_)
  refine L.box rfl rfl rfl (fun b3 => ?_)
  refine L.assign rfl rfl ?_
  refine L.nil ?_
  refine T.thenN ?_
  refine T.seq ?_
  refine T.regionA (clsL [0, 0, 0, 2, 2, 2]) (by kernel_rfl) ?_
  refine A.take (i := 0) rfl rfl rfl rfl (by kernel_rfl) (by kernel_rfl) (by kernel_rfl) (by kernel_rfl) rfl qD qF ?_
  refine L.loadA rfl ag24 rfl qN ?_
  refine A.took ?_
  refine A.take (i := 2) rfl rfl rfl rfl (by kernel_rfl) (by kernel_rfl) (by kernel_rfl) (by kernel_rfl) rfl qD qF ?_
  refine L.loadA rfl ag24 rfl qN ?_
  refine A.took ?_
  refine A.branch (is := [1]) (by kernel_rfl) (by decide) (Each.cons rfl ?_ <| Each.nil) 
  refine L.call rfl (evs.cons rfl <| evs.nil) qD qS (Right_spec (x := x) a len cap) ?_
  rintro _ _ _ ⟨Y, ya, yl, yc, rfl, hyo, rfl, rfl⟩
  refine L.norm qA qA ?_
  have hyc := hyo.2.1
  have hyw := small_wr hyo.1 hyo.2.1 hyo.2.2.2.2.1 hyo.2.2.2.2.2
  refine A.back rfl qD qF ?_
  refine A.branch (is := [3]) (by kernel_rfl) (by decide) (Each.cons rfl ?_ <| Each.nil) 
  refine L.call rfl (evs.cons rfl <| evs.nil) qD qS (Right_spec (x := z) a2 len2 cap2) ?_
  rintro _ _ _ ⟨Z, za, zl, zc, rfl, hzo, rfl, rfl⟩
  refine L.norm qA qA ?_
  have hzc := hzo.2.1
  have hzw := small_wr hzo.1 hzo.2.1 hzo.2.2.2.2.1 hzo.2.2.2.2.2
  refine A.backT rfl qD ?_
  refine A.branch (is := [4]) (by kernel_rfl) (by decide) (Each.cons rfl ?_ <| Each.nil) 
  refine L.storeA ag24 rfl rfl qL qO qU qW ?_
  refine A.backT rfl qD ?_
  refine A.branch (is := [5]) (by kernel_rfl) (by decide) (Each.cons rfl ?_ <| Each.nil) 
  refine L.storeA ag24 rfl rfl qL qO qU qW ?_
  refine A.backT rfl qD ?_
  refine A.done (by kernel_rfl) ?_
  refine T.thenN ?_
  refine T.seq ?_
  refine T.region ?_
  refine L.loadA rfl ag24 rfl qN ?_
  refine L.callF rfl (evs.cons rfl <| evs.nil) qD qS (write_spec (x := Y) _ _ _ (by omega) hyo.2.2.1 hyo.2.2.2.1) (by rintro u D1 M1 ⟨rfl, rfl, rfl⟩; exact ⟨rfl, _, qA, qF⟩) ?_
  rw [hyw.1, hyw.2.1]
  refine L.move rfl rfl ?_
  refine L.extract rfl rfl rfl ?_
  refine L.extract rfl rfl rfl ?_
  refine L.assign rfl rfl ?_
  refine L.assign rfl rfl ?_
  refine L.nil ?_
  refine T.thenN ?_
  refine T.seq ?_
  refine T.region ?_
  refine L.loadA rfl ag24 rfl qN ?_
  refine L.callF rfl (evs.cons rfl <| evs.nil) qD qS (write_spec (x := Z) _ _ _ (by omega) hzo.2.2.1 hzo.2.2.2.1) (by rintro u D1 M1 ⟨rfl, rfl, rfl⟩; exact ⟨rfl, _, qA, qF⟩) ?_
  rw [hzw.1, hzw.2.1]
  refine L.move rfl rfl ?_
  refine L.extract rfl rfl rfl ?_
  refine L.extract rfl rfl rfl ?_
  refine L.assign rfl rfl ?_
  refine L.assign rfl rfl ?_
  refine L.nil ?_
  refine T.thenN ?_
  refine T.seq ?_
  refine T.region ?_
  refine L.callF rfl (evs.nil) qD qS (awake6_spec) (by rintro u D1 M1 ⟨rfl, rfl, rfl⟩; exact ⟨rfl, _, qA, qF⟩) ?_
  refine L.move rfl rfl ?_
  refine L.known (t := 24) rfl (show _ = Value.bool true from rfl) ?_
  refine L.guardT (dj := 24) rfl rfl rfl ?_
  refine L.move rfl rfl ?_
  refine L.guardT (dj := 24) rfl rfl rfl ?_
  refine L.eqI rfl rfl rfl ?_
  refine L.pickT rfl rfl rfl ?_
  refine L.move rfl rfl ?_
  refine L.known (t := 28) rfl (show _ = Value.bool true from rfl) ?_
  refine L.guardT (dj := 28) rfl rfl rfl ?_
  refine L.move rfl rfl ?_
  refine L.guardT (dj := 28) rfl rfl rfl ?_
  refine L.eqI rfl rfl rfl ?_
  refine L.pickT rfl rfl rfl ?_
  refine L.move rfl rfl ?_
  refine L.known (t := 32) rfl (show _ = Value.bool true from rfl) ?_
  refine L.guardT (dj := 32) rfl rfl rfl ?_
  refine L.move rfl rfl ?_
  refine L.guardT (dj := 32) rfl rfl rfl ?_
  refine L.move rfl rfl ?_
  refine L.guardT (dj := 32) rfl rfl rfl ?_
  refine L.eqS rfl rfl rfl ?_
  refine L.guardT (dj := 32) rfl rfl rfl ?_
  refine L.loadA rfl ag24 rfl qN ?_
  refine L.guardT (dj := 32) rfl rfl rfl ?_
  refine L.loadA rfl ag24 rfl qN ?_
  refine L.guardT (dj := 32) rfl rfl rfl ?_
  refine L.callF rfl (evs.cons rfl <| evs.cons rfl <| evs.nil) qD qS (same_spec (x := Y) (z := Z) (by omega)) (by rintro u D1 M1 ⟨rfl, rfl, rfl⟩; exact ⟨rfl, _, qA, qF⟩) ?_
  refine L.guardT (dj := 32) rfl rfl rfl ?_
  refine L.eqlB Try.underlying4 rfl rfl rfl ?_
  refine L.pickT rfl rfl rfl ?_
  refine L.assign rfl rfl ?_
  refine L.nil ?_
  refine T.thenN ?_
  refine T.ret ?_
  exact T.ret1 rfl rfl ⟨congrArg Value.bool (by have hpi := put_inj hyo.1 hzo.1; by_cases q : putT Y = putT Z; simp [q, hpi.1 q]; (have q2 : ¬ compT Y Z = 0 := fun e => q (hpi.2 e)); simp [q, q2]), rfl, rfl⟩ qD qF
end Cv
