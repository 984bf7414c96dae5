/-
  The walks: Compare is an order.
-/
import Derived.Test.YtdajpfbgikgkeaaP05
import Derived.Test.YtdajpfbgikgkeaaO05
import Derived.Test.YtdajpfbgikgkeaaProg
import Derived.KernelRfl
set_option maxRecDepth 10000
set_option linter.unusedSimpArgs false
set_option linter.unusedVariables false
namespace Cv
open Go Go.Proofs

theorem not_eq_dec {p : Prop} [Decidable p] {b : Bool} (h : b = decide p) : (decide p = b) = True := by simp [h]
set_option maxHeartbeats 400000 in
theorem treeOrder_spec {x y z : Tr} (a1 : Option Addr) (l1 c1 : Nat) (a2 : Option Addr) (l2 c2 : Nat) (a3 : Option Addr) (l3 c3 : Nat)  : Spec Try.prog 6 [.agg (iRow x a1 l1 c1).toArray, .agg (iRow y a2 l2 c2).toArray, .agg (iRow z a3 l3 c3).toArray] [rtr x (eRow x a1 l1 c1), rtr y (eRow y a2 l2 c2), rtr z (eRow z a3 l3 c3)] [] (fun v D' M' => v = .bool true ∧ D' = [] ∧ M' = []) := by
  refine Spec.intro (n := 84) Try.func6 rfl rfl (by decide) (Nat.le_of_ble_eq_true rfl) rfl (fun _ => qA) (fun _ => qA) ?_
  intro σ D M
  have hfcx := few_count x 30 1 (by decide)
  have hsmx := few_sm x 30 1
  obtain ⟨X, hYx⟩ : ∃ Y, (fewT x 30 1).1 = Y := ⟨_, rfl⟩
  have hfsx := Few_spec (x := x) a1 l1 c1
  rw [hYx] at hfsx hfcx hsmx
  have hfcy := few_count y 30 1 (by decide)
  have hsmy := few_sm y 30 1
  obtain ⟨Y, hYy⟩ : ∃ Y, (fewT y 30 1).1 = Y := ⟨_, rfl⟩
  have hfsy := Few_spec (x := y) a2 l2 c2
  rw [hYy] at hfsy hfcy hsmy
  have hfcz := few_count z 30 1 (by decide)
  have hsmz := few_sm z 30 1
  obtain ⟨Z, hYz⟩ : ∃ Y, (fewT z 30 1).1 = Y := ⟨_, rfl⟩
  have hfsz := Few_spec (x := z) a3 l3 c3
  rw [hYz] at hfsz hfcz hsmz
  have hng := compT_neg X Y
  have hvx := compT_vals X Y
  have htr := compT_trans X Y Z
  have hts := told_same X Y
  refine T.seq ?_
  refine T.region ?_
  refine L.box rfl rfl rfl (fun b3 => ?_)
  refine L.box rfl rfl rfl (fun b4 => ?_)
  refine L.box rfl rfl rfl (fun b5 => ?_)
  refine L.assign rfl rfl ?_
  refine L.nil ?_
  refine T.thenN ?_
  refine T.seq ?_
  refine T.regionA (clsL [0, 0, 0, 0, 0, 2, 2, 2, 2]) (by kernel_rfl) ?_
  refine A.take (i := 0) rfl rfl rfl rfl (by kernel_rfl) (by kernel_rfl) (by kernel_rfl) (by kernel_rfl) rfl qD qF ?_
  refine L.loadA rfl ag24 rfl qN ?_
  refine A.took ?_
  refine A.take (i := 2) rfl rfl rfl rfl (by kernel_rfl) (by kernel_rfl) (by kernel_rfl) (by kernel_rfl) rfl qD qF ?_
  refine L.loadA rfl ag24 rfl qN ?_
  refine A.took ?_
  refine A.take (i := 4) rfl rfl rfl rfl (by kernel_rfl) (by kernel_rfl) (by kernel_rfl) (by kernel_rfl) rfl qD qF ?_
  refine L.loadA rfl ag24 rfl qN ?_
  refine A.took ?_
  refine A.branch (is := [1]) (by kernel_rfl) (by decide) (Each.cons rfl ?_ <| Each.nil) 
  refine L.call rfl (evs.cons rfl <| evs.nil) qD qS (hfsx) ?_
  rintro _ _ _ ⟨fa1, fl1, fc1, rfl, rfl, rfl⟩
  refine L.norm qA qA ?_
  refine A.back rfl qD qF ?_
  refine A.branch (is := [3]) (by kernel_rfl) (by decide) (Each.cons rfl ?_ <| Each.nil) 
  refine L.call rfl (evs.cons rfl <| evs.nil) qD qS (hfsy) ?_
  rintro _ _ _ ⟨fa2, fl2, fc2, rfl, rfl, rfl⟩
  refine L.norm qA qA ?_
  refine A.back rfl qD qF ?_
  refine A.branch (is := [5]) (by kernel_rfl) (by decide) (Each.cons rfl ?_ <| Each.nil) 
  refine L.call rfl (evs.cons rfl <| evs.nil) qD qS (hfsz) ?_
  rintro _ _ _ ⟨fa3, fl3, fc3, rfl, rfl, rfl⟩
  refine L.norm qA qA ?_
  refine A.backT rfl qD ?_
  refine A.branch (is := [6]) (by kernel_rfl) (by decide) (Each.cons rfl ?_ <| Each.nil) 
  refine L.storeA ag24 rfl rfl qL qO qU qW ?_
  refine A.backT rfl qD ?_
  refine A.branch (is := [7]) (by kernel_rfl) (by decide) (Each.cons rfl ?_ <| Each.nil) 
  refine L.storeA ag24 rfl rfl qL qO qU qW ?_
  refine A.backT rfl qD ?_
  refine A.branch (is := [8]) (by kernel_rfl) (by decide) (Each.cons rfl ?_ <| Each.nil) 
  refine L.storeA ag24 rfl rfl qL qO qU qW ?_
  refine A.backT rfl qD ?_
  refine A.done (by kernel_rfl) ?_
  refine T.thenN ?_
  refine T.seq ?_
  refine T.regionQ (by kernel_rfl) (by kernel_rfl) ?_
  refine L.loadA rfl ag24 rfl qN ?_
  refine L.loadA rfl ag24 rfl qN ?_
  refine L.callF rfl (evs.cons rfl <| evs.cons rfl <| evs.nil) qD qS (comp_spec X fa1 fl1 fc1 Y fa2 fl2 fc2 (by omega)) (by rintro u D1 M1 ⟨rfl, rfl, rfl⟩; exact ⟨rfl, _, qA, qF⟩) ?_
  refine L.loadA rfl ag24 rfl qN ?_
  refine L.loadA rfl ag24 rfl qN ?_
  refine L.callF rfl (evs.cons rfl <| evs.cons rfl <| evs.nil) qD qS (comp_spec Y fa2 fl2 fc2 Z fa3 fl3 fc3 (by omega)) (by rintro u D1 M1 ⟨rfl, rfl, rfl⟩; exact ⟨rfl, _, qA, qF⟩) ?_
  refine L.loadA rfl ag24 rfl qN ?_
  refine L.loadA rfl ag24 rfl qN ?_
  refine L.callF rfl (evs.cons rfl <| evs.cons rfl <| evs.nil) qD qS (comp_spec X fa1 fl1 fc1 Z fa3 fl3 fc3 (by omega)) (by rintro u D1 M1 ⟨rfl, rfl, rfl⟩; exact ⟨rfl, _, qA, qF⟩) ?_
  refine L.assign rfl rfl ?_
  refine L.assign rfl rfl ?_
  refine L.assign rfl rfl ?_
  refine L.nilQ ?_
  refine T.thenN ?_
  refine T.seq ?_
  refine T.seq ?_
  refine T.regionA (clsL [2, 1, 1, 2, 2, 2, 1, 1, 1, 2, 1, 1, 1, 2, 2, 2, 2, 2, 1, 2, 1, 2, 2, 2, 1, 1, 1, 2, 1, 1, 1, 2, 1, 1, 1, 2]) (by kernel_rfl) ?_
  refine A.branch (is := [0]) (by kernel_rfl) (by decide) (Each.cons rfl ?_ <| Each.nil) 
  refine L.callF rfl (evs.nil) qD qS (awake_spec) (by rintro u D1 M1 ⟨rfl, rfl, rfl⟩; exact ⟨rfl, _, qA, qF⟩) ?_
  refine A.backT rfl qD ?_
  refine A.takeP (i := 1) rfl rfl rfl rfl (by kernel_rfl) (by kernel_rfl) (by kernel_rfl) rfl qD ?_
  refine L.notB rfl rfl ?_
  refine A.took ?_
  refine A.takeP (i := 2) rfl rfl rfl rfl (by kernel_rfl) (by kernel_rfl) (by kernel_rfl) rfl qD ?_
  refine L.move rfl rfl ?_
  refine A.took ?_
  refine A.known (t := 27) rfl (show _ = Value.bool false from rfl) ?_
  refine A.takeP (i := 6) rfl rfl rfl rfl (by kernel_rfl) (by kernel_rfl) (by kernel_rfl) rfl qD ?_
  refine L.guardT (dj := 27) rfl rfl rfl ?_
  refine L.move rfl rfl ?_
  refine A.took ?_
  refine A.takeP (i := 7) rfl rfl rfl rfl (by kernel_rfl) (by kernel_rfl) (by kernel_rfl) rfl qD ?_
  refine L.guardT (dj := 27) rfl rfl rfl ?_
  refine L.negN rfl rfl qI ?_
  refine A.took ?_
  refine A.branch (is := [3, 4]) (by kernel_rfl) (by decide) (Each.cons rfl ?_ <| Each.cons rfl ?_ <| Each.nil) 
  · skip
    refine L.guardT (dj := 27) rfl rfl rfl ?_
    refine L.loadA rfl ag24 rfl qN ?_
    refine A.backT rfl qD ?_
    refine A.branch (is := [4]) (by kernel_rfl) (by decide) (Each.cons rfl ?_ <| Each.nil) 
    refine L.guardT (dj := 27) rfl rfl rfl ?_
    refine L.loadA rfl ag24 rfl qN ?_
    refine A.backT rfl qD ?_
    refine A.branch (is := [5]) (by kernel_rfl) (by decide) (Each.cons rfl ?_ <| Each.nil) 
    refine L.guardT (dj := 27) rfl rfl rfl ?_
    refine L.callF rfl (evs.cons rfl <| evs.cons rfl <| evs.nil) qD qS (comp_spec Y fa2 fl2 fc2 X fa1 fl1 fc1 (by omega)) (by rintro u D1 M1 ⟨rfl, rfl, rfl⟩; exact ⟨rfl, _, qA, qF⟩) ?_
    refine A.backT rfl qD ?_
    refine A.takeP (i := 8) rfl rfl rfl rfl (by kernel_rfl) (by kernel_rfl) (by kernel_rfl) rfl qD ?_
    refine L.guardT (dj := 27) rfl rfl rfl ?_
    refine L.neI rfl rfl rfl ?_
    refine A.took ?_
    refine A.branch (is := [9]) (by kernel_rfl) (by decide) (Each.cons rfl ?_ <| Each.nil) 
    refine L.pickF rfl rfl rfl ?_
    refine A.backT rfl qD ?_
    refine A.takeP (i := 10) rfl rfl rfl rfl (by kernel_rfl) (by kernel_rfl) (by kernel_rfl) rfl qD ?_
    refine L.move rfl rfl ?_
    refine A.took ?_
    refine A.known (t := 35) rfl (show _ = Value.bool false from congrArg Value.bool (by rw [hng]; simp)) ?_
    refine A.takeP (i := 11) rfl rfl rfl rfl (by kernel_rfl) (by kernel_rfl) (by kernel_rfl) rfl qD ?_
    refine L.guardT (dj := 35) rfl rfl rfl ?_
    refine L.move rfl rfl ?_
    refine A.took ?_
    refine A.takeP (i := 12) rfl rfl rfl rfl (by kernel_rfl) (by kernel_rfl) (by kernel_rfl) rfl qD ?_
    refine L.guardT (dj := 35) rfl rfl rfl ?_
    refine L.eqI rfl rfl rfl ?_
    refine A.took ?_
    refine A.branch (is := [13, 15]) (by kernel_rfl) (by decide) (Each.cons rfl ?_ <| Each.cons rfl ?_ <| Each.nil) 
    · skip
      refine L.guardT (dj := 35) rfl rfl rfl ?_
      refine L.loadA rfl ag24 rfl qN ?_
      refine A.backT rfl qD ?_
      refine A.branch (is := [14, 15]) (by kernel_rfl) (by decide) (Each.cons rfl ?_ <| Each.cons rfl ?_ <| Each.nil) 
      · skip
        refine L.guardT (dj := 35) rfl rfl rfl ?_
        refine L.call rfl (evs.cons rfl <| evs.nil) qD qS (Told_spec (x := X) fa1 fl1 fc1 (by omega)) ?_
        rintro _ _ _ ⟨ta, tl, tc, rfl, htl, rfl, rfl⟩
        refine L.norm qA qA ?_
        refine L.ownRsl qP ?_
        refine A.backT rfl qD ?_
        refine A.branch (is := [15]) (by kernel_rfl) (by decide) (Each.cons rfl ?_ <| Each.nil) 
        refine L.guardT (dj := 35) rfl rfl rfl ?_
        refine L.loadA rfl ag24 rfl qN ?_
        refine A.backT rfl qD ?_
        refine A.branch (is := [16]) (by kernel_rfl) (by decide) (Each.cons rfl ?_ <| Each.nil) 
        refine L.guardT (dj := 35) rfl rfl rfl ?_
        refine L.call rfl (evs.cons rfl <| evs.nil) qD qS (Told_spec (x := Y) fa2 fl2 fc2 (by omega)) ?_
        rintro _ _ _ ⟨ta2, tl2, tc2, rfl, htl2, rfl, rfl⟩
        refine L.norm qA qA ?_
        refine L.ownRsl qP ?_
        refine A.backT rfl qD ?_
        refine A.branch (is := [17]) (by kernel_rfl) (by decide) (Each.cons rfl ?_ <| Each.nil) 
        refine L.guardT (dj := 35) rfl rfl rfl ?_
        refine L.callF rfl (evs.cons rfl <| evs.cons rfl <| evs.nil) qD qS (rsame_spec (l := toldT X [] 1 true true) (l2 := toldT Y [] 1 true true) (by omega)) (by rintro u D1 M1 ⟨rfl, rfl, rfl⟩; exact ⟨rfl, _, qA, qF⟩) ?_
        refine A.backT rfl qD ?_
        refine A.takeP (i := 18) rfl rfl rfl rfl (by kernel_rfl) (by kernel_rfl) (by kernel_rfl) rfl qD ?_
        refine L.guardT (dj := 35) rfl rfl rfl ?_
        refine L.neqB Try.underlying4 rfl rfl rfl ?_
        refine A.took ?_
        refine A.branch (is := [19]) (by kernel_rfl) (by decide) (Each.cons rfl ?_ <| Each.nil) 
        refine L.pickF rfl rfl rfl ?_
        refine A.backT rfl qD ?_
        refine A.takeP (i := 20) rfl rfl rfl rfl (by kernel_rfl) (by kernel_rfl) (by kernel_rfl) rfl qD ?_
        refine L.move rfl rfl ?_
        refine A.took ?_
        refine A.known (t := 45) rfl (show _ = Value.bool false from congrArg Value.bool (by simp [hts])) ?_
        refine A.takeP (i := 24) rfl rfl rfl rfl (by kernel_rfl) (by kernel_rfl) (by kernel_rfl) rfl qD ?_
        refine L.guardT (dj := 45) rfl rfl rfl ?_
        refine L.move rfl rfl ?_
        refine A.took ?_
        refine A.takeP (i := 25) rfl rfl rfl rfl (by kernel_rfl) (by kernel_rfl) (by kernel_rfl) rfl qD ?_
        refine L.guardT (dj := 45) rfl rfl rfl ?_
        refine L.eqI rfl rfl rfl ?_
        refine A.took ?_
        refine A.branch (is := [21, 22]) (by kernel_rfl) (by decide) (Each.cons rfl ?_ <| Each.cons rfl ?_ <| Each.nil) 
        · skip
          refine L.guardT (dj := 45) rfl rfl rfl ?_
          refine L.loadA rfl ag24 rfl qN ?_
          refine A.backT rfl qD ?_
          refine A.branch (is := [22]) (by kernel_rfl) (by decide) (Each.cons rfl ?_ <| Each.nil) 
          refine L.guardT (dj := 45) rfl rfl rfl ?_
          refine L.loadA rfl ag24 rfl qN ?_
          refine A.backT rfl qD ?_
          refine A.branch (is := [23]) (by kernel_rfl) (by decide) (Each.cons rfl ?_ <| Each.nil) 
          refine L.guardT (dj := 45) rfl rfl rfl ?_
          refine L.callF rfl (evs.cons rfl <| evs.cons rfl <| evs.nil) qD qS (same_spec (x := X) (z := Y) (by omega)) (by rintro u D1 M1 ⟨rfl, rfl, rfl⟩; exact ⟨rfl, _, qA, qF⟩) ?_
          refine A.backT rfl qD ?_
          refine A.takeP (i := 26) rfl rfl rfl rfl (by kernel_rfl) (by kernel_rfl) (by kernel_rfl) rfl qD ?_
          refine L.guardT (dj := 45) rfl rfl rfl ?_
          refine L.neqB Try.underlying4 rfl rfl rfl ?_
          refine A.took ?_
          refine A.branch (is := [27]) (by kernel_rfl) (by decide) (Each.cons rfl ?_ <| Each.nil) 
          refine L.pickF rfl rfl rfl ?_
          refine A.backT rfl qD ?_
          refine A.takeP (i := 28) rfl rfl rfl rfl (by kernel_rfl) (by kernel_rfl) (by kernel_rfl) rfl qD ?_
          refine L.move rfl rfl ?_
          refine A.took ?_
          refine A.known (t := 53) rfl (show _ = Value.bool false from congrArg Value.bool (by simp)) ?_
          refine A.takeP (i := 29) rfl rfl rfl rfl (by kernel_rfl) (by kernel_rfl) (by kernel_rfl) rfl qD ?_
          refine L.guardT (dj := 53) rfl rfl rfl ?_
          refine L.move rfl rfl ?_
          refine A.took ?_
          refine A.takeP (i := 30) rfl rfl rfl rfl (by kernel_rfl) (by kernel_rfl) (by kernel_rfl) rfl qD ?_
          refine L.guardT (dj := 53) rfl rfl rfl ?_
          refine L.ltI rfl rfl rfl ?_
          refine A.took ?_
          refine A.branch (is := [31]) (by kernel_rfl) (by decide) (Each.cons rfl ?_ <| Each.nil) 
          refine L.pickF rfl rfl rfl ?_
          refine A.backT rfl qD ?_
          refine A.takeP (i := 32) rfl rfl rfl rfl (by kernel_rfl) (by kernel_rfl) (by kernel_rfl) rfl qD ?_
          refine L.move rfl rfl ?_
          refine A.took ?_
          refine A.known (t := 57) rfl (show _ = Value.bool false from congrArg Value.bool (decide_eq_false (by omega))) ?_
          refine A.takeP (i := 33) rfl rfl rfl rfl (by kernel_rfl) (by kernel_rfl) (by kernel_rfl) rfl qD ?_
          refine L.guardT (dj := 57) rfl rfl rfl ?_
          refine L.move rfl rfl ?_
          refine A.took ?_
          refine A.takeP (i := 34) rfl rfl rfl rfl (by kernel_rfl) (by kernel_rfl) (by kernel_rfl) rfl qD ?_
          refine L.guardT (dj := 57) rfl rfl rfl ?_
          refine L.gtI rfl rfl rfl ?_
          refine A.took ?_
          refine A.branch (is := [35]) (by kernel_rfl) (by decide) (Each.cons rfl ?_ <| Each.nil) 
          refine L.pickF rfl rfl rfl ?_
          refine A.backT rfl qD ?_
          refine A.done (by kernel_rfl) ?_
          refine T.thenN ?_
          refine T.cond rfl (fun h60 => ?_) (fun h60 => ?_)
          · try simp only [decide_eq_true_eq, decide_eq_false_iff_not, Bool.not_eq_true', Bool.not_eq_false', Bool.and_eq_true, Bool.or_eq_true] at h60
            refine T.seq ?_
            refine T.region ?_
            refine L.assign rfl rfl ?_
            refine L.nil ?_
            refine T.thenN ?_
            refine T.ret ?_
            refine T.thenR ?_
            exact T.ret1 rfl rfl ⟨congrArg Value.bool (by unfold TrI at htr; simp_all <;> omega), rfl, rfl⟩ qD qF
          · try simp only [decide_eq_true_eq, decide_eq_false_iff_not, Bool.not_eq_true', Bool.not_eq_false', Bool.and_eq_true, Bool.or_eq_true] at h60
            refine T.skip ?_
            refine T.thenN ?_
            refine T.seq ?_
            refine T.region ?_
            refine L.move rfl rfl ?_
            refine L.leI rfl rfl rfl ?_
            refine L.move rfl rfl ?_
            refine L.part (t := 63) rfl (fun h1 => ?_) (fun h1 => ?_)
            · try simp only [decide_eq_true_eq, decide_eq_false_iff_not, Bool.not_eq_true', Bool.not_eq_false', Bool.and_eq_true, Bool.or_eq_true] at h1
              refine L.guardT (dj := 63) rfl rfl rfl ?_
              refine L.move rfl rfl ?_
              refine L.guardT (dj := 63) rfl rfl rfl ?_
              refine L.leI rfl rfl rfl ?_
              refine L.pickT rfl rfl rfl ?_
              refine L.notB rfl rfl ?_
              refine L.move rfl rfl ?_
              refine L.part (t := 68) rfl (fun h2 => ?_) (fun h2 => ?_)
              · try simp only [decide_eq_true_eq, decide_eq_false_iff_not, Bool.not_eq_true', Bool.not_eq_false', Bool.and_eq_true, Bool.or_eq_true] at h2
                refine L.guardF (dj := 68) (c := true) rfl rfl rfl rfl rfl (by decide) ?_
                refine L.guardF (dj := 68) (c := true) rfl rfl rfl rfl rfl (by decide) ?_
                refine L.guardF (dj := 68) (c := true) rfl rfl rfl rfl rfl (by decide) ?_
                refine L.guardU (dj := 71) rfl rfl rfl rfl rfl ?_
                refine L.guardU (dj := 71) rfl rfl rfl rfl rfl ?_
                refine L.guardU (dj := 71) rfl rfl rfl rfl rfl ?_
                refine L.guardU (dj := 74) rfl rfl rfl rfl rfl ?_
                refine L.guardU (dj := 74) rfl rfl rfl rfl rfl ?_
                refine L.guardU (dj := 74) rfl rfl rfl rfl rfl ?_
                refine L.guardU (dj := 77) rfl rfl rfl rfl rfl ?_
                refine L.guardU (dj := 77) rfl rfl rfl rfl rfl ?_
                refine L.guardU (dj := 74) rfl rfl rfl rfl rfl ?_
                refine L.guardU (dj := 71) rfl rfl rfl rfl rfl ?_
                refine L.guardF (dj := 68) (c := true) rfl rfl rfl rfl rfl (by decide) ?_
                refine L.pickT rfl rfl rfl ?_
                refine L.assign rfl rfl ?_
                refine L.nil ?_
                refine T.thenN ?_
                refine T.ret ?_
                exact T.ret1 rfl rfl ⟨congrArg Value.bool (by unfold TrI at htr; simp_all <;> omega), rfl, rfl⟩ qD qF
              · try simp only [decide_eq_true_eq, decide_eq_false_iff_not, Bool.not_eq_true', Bool.not_eq_false', Bool.and_eq_true, Bool.or_eq_true] at h2
                refine L.guardT (dj := 68) rfl rfl rfl ?_
                refine L.move rfl rfl ?_
                refine L.guardT (dj := 68) rfl rfl rfl ?_
                refine L.leI rfl rfl rfl ?_
                refine L.guardT (dj := 68) rfl rfl rfl ?_
                refine L.move rfl rfl ?_
                refine L.part (t := 71) rfl (fun h3 => ?_) (fun h3 => ?_)
                · try simp only [decide_eq_true_eq, decide_eq_false_iff_not, Bool.not_eq_true', Bool.not_eq_false', Bool.and_eq_true, Bool.or_eq_true] at h3
                  refine L.guardT (dj := 71) rfl rfl rfl ?_
                  refine L.move rfl rfl ?_
                  refine L.guardT (dj := 71) rfl rfl rfl ?_
                  refine L.ltI rfl rfl rfl ?_
                  refine L.guardT (dj := 71) rfl rfl rfl ?_
                  refine L.move rfl rfl ?_
                  refine L.part (t := 74) rfl (fun h4 => ?_) (fun h4 => ?_)
                  · try simp only [decide_eq_true_eq, decide_eq_false_iff_not, Bool.not_eq_true', Bool.not_eq_false', Bool.and_eq_true, Bool.or_eq_true] at h4
                    refine L.guardF (dj := 74) (c := true) rfl rfl rfl rfl rfl (by decide) ?_
                    refine L.guardF (dj := 74) (c := true) rfl rfl rfl rfl rfl (by decide) ?_
                    refine L.guardF (dj := 74) (c := true) rfl rfl rfl rfl rfl (by decide) ?_
                    refine L.guardU (dj := 77) rfl rfl rfl rfl rfl ?_
                    refine L.guardU (dj := 77) rfl rfl rfl rfl rfl ?_
                    refine L.guardF (dj := 74) (c := true) rfl rfl rfl rfl rfl (by decide) ?_
                    refine L.guardT (dj := 71) rfl rfl rfl ?_
                    refine L.pickT rfl rfl rfl ?_
                    refine L.guardT (dj := 68) rfl rfl rfl ?_
                    refine L.pickT rfl rfl rfl ?_
                    refine L.pickF rfl rfl rfl ?_
                    refine L.assign rfl rfl ?_
                    refine L.nil ?_
                    refine T.thenN ?_
                    refine T.ret ?_
                    exact T.ret1 rfl rfl ⟨congrArg Value.bool (by unfold TrI at htr; simp_all <;> omega), rfl, rfl⟩ qD qF
                  · try simp only [decide_eq_true_eq, decide_eq_false_iff_not, Bool.not_eq_true', Bool.not_eq_false', Bool.and_eq_true, Bool.or_eq_true] at h4
                    refine L.guardT (dj := 74) rfl rfl rfl ?_
                    refine L.move rfl rfl ?_
                    refine L.guardT (dj := 74) rfl rfl rfl ?_
                    refine L.eqI rfl rfl rfl ?_
                    refine L.guardT (dj := 74) rfl rfl rfl ?_
                    refine L.move rfl rfl ?_
                    refine L.part (t := 77) rfl (fun h5 => ?_) (fun h5 => ?_)
                    · try simp only [decide_eq_true_eq, decide_eq_false_iff_not, Bool.not_eq_true', Bool.not_eq_false', Bool.and_eq_true, Bool.or_eq_true] at h5
                      refine L.guardT (dj := 77) rfl rfl rfl ?_
                      refine L.move rfl rfl ?_
                      refine L.guardT (dj := 77) rfl rfl rfl ?_
                      refine L.eqI rfl rfl rfl ?_
                      refine L.guardT (dj := 74) rfl rfl rfl ?_
                      refine L.pickT rfl rfl rfl ?_
                      refine L.guardT (dj := 71) rfl rfl rfl ?_
                      refine L.pickF rfl rfl rfl ?_
                      refine L.guardT (dj := 68) rfl rfl rfl ?_
                      refine L.pickT rfl rfl rfl ?_
                      refine L.pickF rfl rfl rfl ?_
                      refine L.assign rfl rfl ?_
                      refine L.nil ?_
                      refine T.thenN ?_
                      refine T.ret ?_
                      exact T.ret1 rfl rfl ⟨congrArg Value.bool (by unfold TrI at htr; simp_all <;> omega), rfl, rfl⟩ qD qF
                    · try simp only [decide_eq_true_eq, decide_eq_false_iff_not, Bool.not_eq_true', Bool.not_eq_false', Bool.and_eq_true, Bool.or_eq_true] at h5
                      refine L.guardF (dj := 77) (c := false) rfl rfl rfl rfl rfl (by decide) ?_
                      refine L.guardF (dj := 77) (c := false) rfl rfl rfl rfl rfl (by decide) ?_
                      refine L.guardT (dj := 74) rfl rfl rfl ?_
                      refine L.pickF rfl rfl rfl ?_
                      refine L.guardT (dj := 71) rfl rfl rfl ?_
                      refine L.pickF rfl rfl rfl ?_
                      refine L.guardT (dj := 68) rfl rfl rfl ?_
                      refine L.pickT rfl rfl rfl ?_
                      refine L.pickF rfl rfl rfl ?_
                      refine L.assign rfl rfl ?_
                      refine L.nil ?_
                      refine T.thenN ?_
                      refine T.ret ?_
                      exact T.ret1 rfl rfl ⟨congrArg Value.bool (by unfold TrI at htr; simp_all <;> omega), rfl, rfl⟩ qD qF
                · try simp only [decide_eq_true_eq, decide_eq_false_iff_not, Bool.not_eq_true', Bool.not_eq_false', Bool.and_eq_true, Bool.or_eq_true] at h3
                  refine L.guardF (dj := 71) (c := false) rfl rfl rfl rfl rfl (by decide) ?_
                  refine L.guardF (dj := 71) (c := false) rfl rfl rfl rfl rfl (by decide) ?_
                  refine L.guardF (dj := 71) (c := false) rfl rfl rfl rfl rfl (by decide) ?_
                  refine L.guardU (dj := 74) rfl rfl rfl rfl rfl ?_
                  refine L.guardU (dj := 74) rfl rfl rfl rfl rfl ?_
                  refine L.guardU (dj := 74) rfl rfl rfl rfl rfl ?_
                  refine L.guardU (dj := 77) rfl rfl rfl rfl rfl ?_
                  refine L.guardU (dj := 77) rfl rfl rfl rfl rfl ?_
                  refine L.guardU (dj := 74) rfl rfl rfl rfl rfl ?_
                  refine L.guardF (dj := 71) (c := false) rfl rfl rfl rfl rfl (by decide) ?_
                  refine L.guardT (dj := 68) rfl rfl rfl ?_
                  refine L.pickF rfl rfl rfl ?_
                  refine L.pickF rfl rfl rfl ?_
                  refine L.assign rfl rfl ?_
                  refine L.nil ?_
                  refine T.thenN ?_
                  refine T.ret ?_
                  exact T.ret1 rfl rfl ⟨congrArg Value.bool (by unfold TrI at htr; simp_all <;> omega), rfl, rfl⟩ qD qF
            · try simp only [decide_eq_true_eq, decide_eq_false_iff_not, Bool.not_eq_true', Bool.not_eq_false', Bool.and_eq_true, Bool.or_eq_true] at h1
              refine L.guardF (dj := 63) (c := false) rfl rfl rfl rfl rfl (by decide) ?_
              refine L.guardF (dj := 63) (c := false) rfl rfl rfl rfl rfl (by decide) ?_
              refine L.pickF rfl rfl rfl ?_
              refine L.notB rfl rfl ?_
              refine L.move rfl rfl ?_
              refine L.guardF (dj := 68) (c := true) rfl rfl rfl rfl rfl (by decide) ?_
              refine L.guardF (dj := 68) (c := true) rfl rfl rfl rfl rfl (by decide) ?_
              refine L.guardF (dj := 68) (c := true) rfl rfl rfl rfl rfl (by decide) ?_
              refine L.guardU (dj := 71) rfl rfl rfl rfl rfl ?_
              refine L.guardU (dj := 71) rfl rfl rfl rfl rfl ?_
              refine L.guardU (dj := 71) rfl rfl rfl rfl rfl ?_
              refine L.guardU (dj := 74) rfl rfl rfl rfl rfl ?_
              refine L.guardU (dj := 74) rfl rfl rfl rfl rfl ?_
              refine L.guardU (dj := 74) rfl rfl rfl rfl rfl ?_
              refine L.guardU (dj := 77) rfl rfl rfl rfl rfl ?_
              refine L.guardU (dj := 77) rfl rfl rfl rfl rfl ?_
              refine L.guardU (dj := 74) rfl rfl rfl rfl rfl ?_
              refine L.guardU (dj := 71) rfl rfl rfl rfl rfl ?_
              refine L.guardF (dj := 68) (c := true) rfl rfl rfl rfl rfl (by decide) ?_
              refine L.pickT rfl rfl rfl ?_
              refine L.assign rfl rfl ?_
              refine L.nil ?_
              refine T.thenN ?_
              refine T.ret ?_
              exact T.ret1 rfl rfl ⟨congrArg Value.bool (by unfold TrI at htr; simp_all <;> omega), rfl, rfl⟩ qD qF
        · skip
          refine L.guardT (dj := 45) rfl rfl rfl ?_
          refine L.loadA rfl ag24 rfl qN ?_
          refine A.backT rfl qD ?_
          refine A.branch (is := [21]) (by kernel_rfl) (by decide) (Each.cons rfl ?_ <| Each.nil) 
          refine L.guardT (dj := 45) rfl rfl rfl ?_
          refine L.loadA rfl ag24 rfl qN ?_
          refine A.backT rfl qD ?_
          refine A.branch (is := [23]) (by kernel_rfl) (by decide) (Each.cons rfl ?_ <| Each.nil) 
          refine L.guardT (dj := 45) rfl rfl rfl ?_
          refine L.callF rfl (evs.cons rfl <| evs.cons rfl <| evs.nil) qD qS (same_spec (x := X) (z := Y) (by omega)) (by rintro u D1 M1 ⟨rfl, rfl, rfl⟩; exact ⟨rfl, _, qA, qF⟩) ?_
          refine A.backT rfl qD ?_
          refine A.takeP (i := 26) rfl rfl rfl rfl (by kernel_rfl) (by kernel_rfl) (by kernel_rfl) rfl qD ?_
          refine L.guardT (dj := 45) rfl rfl rfl ?_
          refine L.neqB Try.underlying4 rfl rfl rfl ?_
          refine A.took ?_
          refine A.branch (is := [27]) (by kernel_rfl) (by decide) (Each.cons rfl ?_ <| Each.nil) 
          refine L.pickF rfl rfl rfl ?_
          refine A.backT rfl qD ?_
          refine A.takeP (i := 28) rfl rfl rfl rfl (by kernel_rfl) (by kernel_rfl) (by kernel_rfl) rfl qD ?_
          refine L.move rfl rfl ?_
          refine A.took ?_
          refine A.known (t := 53) rfl (show _ = Value.bool false from congrArg Value.bool (by simp)) ?_
          refine A.takeP (i := 29) rfl rfl rfl rfl (by kernel_rfl) (by kernel_rfl) (by kernel_rfl) rfl qD ?_
          refine L.guardT (dj := 53) rfl rfl rfl ?_
          refine L.move rfl rfl ?_
          refine A.took ?_
          refine A.takeP (i := 30) rfl rfl rfl rfl (by kernel_rfl) (by kernel_rfl) (by kernel_rfl) rfl qD ?_
          refine L.guardT (dj := 53) rfl rfl rfl ?_
          refine L.ltI rfl rfl rfl ?_
          refine A.took ?_
          refine A.branch (is := [31]) (by kernel_rfl) (by decide) (Each.cons rfl ?_ <| Each.nil) 
          refine L.pickF rfl rfl rfl ?_
          refine A.backT rfl qD ?_
          refine A.takeP (i := 32) rfl rfl rfl rfl (by kernel_rfl) (by kernel_rfl) (by kernel_rfl) rfl qD ?_
          refine L.move rfl rfl ?_
          refine A.took ?_
          refine A.known (t := 57) rfl (show _ = Value.bool false from congrArg Value.bool (decide_eq_false (by omega))) ?_
          refine A.takeP (i := 33) rfl rfl rfl rfl (by kernel_rfl) (by kernel_rfl) (by kernel_rfl) rfl qD ?_
          refine L.guardT (dj := 57) rfl rfl rfl ?_
          refine L.move rfl rfl ?_
          refine A.took ?_
          refine A.takeP (i := 34) rfl rfl rfl rfl (by kernel_rfl) (by kernel_rfl) (by kernel_rfl) rfl qD ?_
          refine L.guardT (dj := 57) rfl rfl rfl ?_
          refine L.gtI rfl rfl rfl ?_
          refine A.took ?_
          refine A.branch (is := [35]) (by kernel_rfl) (by decide) (Each.cons rfl ?_ <| Each.nil) 
          refine L.pickF rfl rfl rfl ?_
          refine A.backT rfl qD ?_
          refine A.done (by kernel_rfl) ?_
          refine T.thenN ?_
          refine T.cond rfl (fun h60 => ?_) (fun h60 => ?_)
          · try simp only [decide_eq_true_eq, decide_eq_false_iff_not, Bool.not_eq_true', Bool.not_eq_false', Bool.and_eq_true, Bool.or_eq_true] at h60
            refine T.seq ?_
            refine T.region ?_
            refine L.assign rfl rfl ?_
            refine L.nil ?_
            refine T.thenN ?_
            refine T.ret ?_
            refine T.thenR ?_
            exact T.ret1 rfl rfl ⟨congrArg Value.bool (by unfold TrI at htr; simp_all <;> omega), rfl, rfl⟩ qD qF
          · try simp only [decide_eq_true_eq, decide_eq_false_iff_not, Bool.not_eq_true', Bool.not_eq_false', Bool.and_eq_true, Bool.or_eq_true] at h60
            refine T.skip ?_
            refine T.thenN ?_
            refine T.seq ?_
            refine T.region ?_
            refine L.move rfl rfl ?_
            refine L.leI rfl rfl rfl ?_
            refine L.move rfl rfl ?_
            refine L.part (t := 63) rfl (fun h6 => ?_) (fun h6 => ?_)
            · try simp only [decide_eq_true_eq, decide_eq_false_iff_not, Bool.not_eq_true', Bool.not_eq_false', Bool.and_eq_true, Bool.or_eq_true] at h6
              refine L.guardT (dj := 63) rfl rfl rfl ?_
              refine L.move rfl rfl ?_
              refine L.guardT (dj := 63) rfl rfl rfl ?_
              refine L.leI rfl rfl rfl ?_
              refine L.pickT rfl rfl rfl ?_
              refine L.notB rfl rfl ?_
              refine L.move rfl rfl ?_
              refine L.part (t := 68) rfl (fun h7 => ?_) (fun h7 => ?_)
              · try simp only [decide_eq_true_eq, decide_eq_false_iff_not, Bool.not_eq_true', Bool.not_eq_false', Bool.and_eq_true, Bool.or_eq_true] at h7
                refine L.guardF (dj := 68) (c := true) rfl rfl rfl rfl rfl (by decide) ?_
                refine L.guardF (dj := 68) (c := true) rfl rfl rfl rfl rfl (by decide) ?_
                refine L.guardF (dj := 68) (c := true) rfl rfl rfl rfl rfl (by decide) ?_
                refine L.guardU (dj := 71) rfl rfl rfl rfl rfl ?_
                refine L.guardU (dj := 71) rfl rfl rfl rfl rfl ?_
                refine L.guardU (dj := 71) rfl rfl rfl rfl rfl ?_
                refine L.guardU (dj := 74) rfl rfl rfl rfl rfl ?_
                refine L.guardU (dj := 74) rfl rfl rfl rfl rfl ?_
                refine L.guardU (dj := 74) rfl rfl rfl rfl rfl ?_
                refine L.guardU (dj := 77) rfl rfl rfl rfl rfl ?_
                refine L.guardU (dj := 77) rfl rfl rfl rfl rfl ?_
                refine L.guardU (dj := 74) rfl rfl rfl rfl rfl ?_
                refine L.guardU (dj := 71) rfl rfl rfl rfl rfl ?_
                refine L.guardF (dj := 68) (c := true) rfl rfl rfl rfl rfl (by decide) ?_
                refine L.pickT rfl rfl rfl ?_
                refine L.assign rfl rfl ?_
                refine L.nil ?_
                refine T.thenN ?_
                refine T.ret ?_
                exact T.ret1 rfl rfl ⟨congrArg Value.bool (by unfold TrI at htr; simp_all <;> omega), rfl, rfl⟩ qD qF
              · try simp only [decide_eq_true_eq, decide_eq_false_iff_not, Bool.not_eq_true', Bool.not_eq_false', Bool.and_eq_true, Bool.or_eq_true] at h7
                refine L.guardT (dj := 68) rfl rfl rfl ?_
                refine L.move rfl rfl ?_
                refine L.guardT (dj := 68) rfl rfl rfl ?_
                refine L.leI rfl rfl rfl ?_
                refine L.guardT (dj := 68) rfl rfl rfl ?_
                refine L.move rfl rfl ?_
                refine L.part (t := 71) rfl (fun h8 => ?_) (fun h8 => ?_)
                · try simp only [decide_eq_true_eq, decide_eq_false_iff_not, Bool.not_eq_true', Bool.not_eq_false', Bool.and_eq_true, Bool.or_eq_true] at h8
                  refine L.guardT (dj := 71) rfl rfl rfl ?_
                  refine L.move rfl rfl ?_
                  refine L.guardT (dj := 71) rfl rfl rfl ?_
                  refine L.ltI rfl rfl rfl ?_
                  refine L.guardT (dj := 71) rfl rfl rfl ?_
                  refine L.move rfl rfl ?_
                  refine L.part (t := 74) rfl (fun h9 => ?_) (fun h9 => ?_)
                  · try simp only [decide_eq_true_eq, decide_eq_false_iff_not, Bool.not_eq_true', Bool.not_eq_false', Bool.and_eq_true, Bool.or_eq_true] at h9
                    refine L.guardF (dj := 74) (c := true) rfl rfl rfl rfl rfl (by decide) ?_
                    refine L.guardF (dj := 74) (c := true) rfl rfl rfl rfl rfl (by decide) ?_
                    refine L.guardF (dj := 74) (c := true) rfl rfl rfl rfl rfl (by decide) ?_
                    refine L.guardU (dj := 77) rfl rfl rfl rfl rfl ?_
                    refine L.guardU (dj := 77) rfl rfl rfl rfl rfl ?_
                    refine L.guardF (dj := 74) (c := true) rfl rfl rfl rfl rfl (by decide) ?_
                    refine L.guardT (dj := 71) rfl rfl rfl ?_
                    refine L.pickT rfl rfl rfl ?_
                    refine L.guardT (dj := 68) rfl rfl rfl ?_
                    refine L.pickT rfl rfl rfl ?_
                    refine L.pickF rfl rfl rfl ?_
                    refine L.assign rfl rfl ?_
                    refine L.nil ?_
                    refine T.thenN ?_
                    refine T.ret ?_
                    exact T.ret1 rfl rfl ⟨congrArg Value.bool (by unfold TrI at htr; simp_all <;> omega), rfl, rfl⟩ qD qF
                  · try simp only [decide_eq_true_eq, decide_eq_false_iff_not, Bool.not_eq_true', Bool.not_eq_false', Bool.and_eq_true, Bool.or_eq_true] at h9
                    refine L.guardT (dj := 74) rfl rfl rfl ?_
                    refine L.move rfl rfl ?_
                    refine L.guardT (dj := 74) rfl rfl rfl ?_
                    refine L.eqI rfl rfl rfl ?_
                    refine L.guardT (dj := 74) rfl rfl rfl ?_
                    refine L.move rfl rfl ?_
                    refine L.part (t := 77) rfl (fun h10 => ?_) (fun h10 => ?_)
                    · try simp only [decide_eq_true_eq, decide_eq_false_iff_not, Bool.not_eq_true', Bool.not_eq_false', Bool.and_eq_true, Bool.or_eq_true] at h10
                      refine L.guardT (dj := 77) rfl rfl rfl ?_
                      refine L.move rfl rfl ?_
                      refine L.guardT (dj := 77) rfl rfl rfl ?_
                      refine L.eqI rfl rfl rfl ?_
                      refine L.guardT (dj := 74) rfl rfl rfl ?_
                      refine L.pickT rfl rfl rfl ?_
                      refine L.guardT (dj := 71) rfl rfl rfl ?_
                      refine L.pickF rfl rfl rfl ?_
                      refine L.guardT (dj := 68) rfl rfl rfl ?_
                      refine L.pickT rfl rfl rfl ?_
                      refine L.pickF rfl rfl rfl ?_
                      refine L.assign rfl rfl ?_
                      refine L.nil ?_
                      refine T.thenN ?_
                      refine T.ret ?_
                      exact T.ret1 rfl rfl ⟨congrArg Value.bool (by unfold TrI at htr; simp_all <;> omega), rfl, rfl⟩ qD qF
                    · try simp only [decide_eq_true_eq, decide_eq_false_iff_not, Bool.not_eq_true', Bool.not_eq_false', Bool.and_eq_true, Bool.or_eq_true] at h10
                      refine L.guardF (dj := 77) (c := false) rfl rfl rfl rfl rfl (by decide) ?_
                      refine L.guardF (dj := 77) (c := false) rfl rfl rfl rfl rfl (by decide) ?_
                      refine L.guardT (dj := 74) rfl rfl rfl ?_
                      refine L.pickF rfl rfl rfl ?_
                      refine L.guardT (dj := 71) rfl rfl rfl ?_
                      refine L.pickF rfl rfl rfl ?_
                      refine L.guardT (dj := 68) rfl rfl rfl ?_
                      refine L.pickT rfl rfl rfl ?_
                      refine L.pickF rfl rfl rfl ?_
                      refine L.assign rfl rfl ?_
                      refine L.nil ?_
                      refine T.thenN ?_
                      refine T.ret ?_
                      exact T.ret1 rfl rfl ⟨congrArg Value.bool (by unfold TrI at htr; simp_all <;> omega), rfl, rfl⟩ qD qF
                · try simp only [decide_eq_true_eq, decide_eq_false_iff_not, Bool.not_eq_true', Bool.not_eq_false', Bool.and_eq_true, Bool.or_eq_true] at h8
                  refine L.guardF (dj := 71) (c := false) rfl rfl rfl rfl rfl (by decide) ?_
                  refine L.guardF (dj := 71) (c := false) rfl rfl rfl rfl rfl (by decide) ?_
                  refine L.guardF (dj := 71) (c := false) rfl rfl rfl rfl rfl (by decide) ?_
                  refine L.guardU (dj := 74) rfl rfl rfl rfl rfl ?_
                  refine L.guardU (dj := 74) rfl rfl rfl rfl rfl ?_
                  refine L.guardU (dj := 74) rfl rfl rfl rfl rfl ?_
                  refine L.guardU (dj := 77) rfl rfl rfl rfl rfl ?_
                  refine L.guardU (dj := 77) rfl rfl rfl rfl rfl ?_
                  refine L.guardU (dj := 74) rfl rfl rfl rfl rfl ?_
                  refine L.guardF (dj := 71) (c := false) rfl rfl rfl rfl rfl (by decide) ?_
                  refine L.guardT (dj := 68) rfl rfl rfl ?_
                  refine L.pickF rfl rfl rfl ?_
                  refine L.pickF rfl rfl rfl ?_
                  refine L.assign rfl rfl ?_
                  refine L.nil ?_
                  refine T.thenN ?_
                  refine T.ret ?_
                  exact T.ret1 rfl rfl ⟨congrArg Value.bool (by unfold TrI at htr; simp_all <;> omega), rfl, rfl⟩ qD qF
            · try simp only [decide_eq_true_eq, decide_eq_false_iff_not, Bool.not_eq_true', Bool.not_eq_false', Bool.and_eq_true, Bool.or_eq_true] at h6
              refine L.guardF (dj := 63) (c := false) rfl rfl rfl rfl rfl (by decide) ?_
              refine L.guardF (dj := 63) (c := false) rfl rfl rfl rfl rfl (by decide) ?_
              refine L.pickF rfl rfl rfl ?_
              refine L.notB rfl rfl ?_
              refine L.move rfl rfl ?_
              refine L.guardF (dj := 68) (c := true) rfl rfl rfl rfl rfl (by decide) ?_
              refine L.guardF (dj := 68) (c := true) rfl rfl rfl rfl rfl (by decide) ?_
              refine L.guardF (dj := 68) (c := true) rfl rfl rfl rfl rfl (by decide) ?_
              refine L.guardU (dj := 71) rfl rfl rfl rfl rfl ?_
              refine L.guardU (dj := 71) rfl rfl rfl rfl rfl ?_
              refine L.guardU (dj := 71) rfl rfl rfl rfl rfl ?_
              refine L.guardU (dj := 74) rfl rfl rfl rfl rfl ?_
              refine L.guardU (dj := 74) rfl rfl rfl rfl rfl ?_
              refine L.guardU (dj := 74) rfl rfl rfl rfl rfl ?_
              refine L.guardU (dj := 77) rfl rfl rfl rfl rfl ?_
              refine L.guardU (dj := 77) rfl rfl rfl rfl rfl ?_
              refine L.guardU (dj := 74) rfl rfl rfl rfl rfl ?_
              refine L.guardU (dj := 71) rfl rfl rfl rfl rfl ?_
              refine L.guardF (dj := 68) (c := true) rfl rfl rfl rfl rfl (by decide) ?_
              refine L.pickT rfl rfl rfl ?_
              refine L.assign rfl rfl ?_
              refine L.nil ?_
              refine T.thenN ?_
              refine T.ret ?_
              exact T.ret1 rfl rfl ⟨congrArg Value.bool (by unfold TrI at htr; simp_all <;> omega), rfl, rfl⟩ qD qF
      · skip
        refine L.guardT (dj := 35) rfl rfl rfl ?_
        refine L.loadA rfl ag24 rfl qN ?_
        refine A.backT rfl qD ?_
        refine A.branch (is := [14]) (by kernel_rfl) (by decide) (Each.cons rfl ?_ <| Each.nil) 
        refine L.guardT (dj := 35) rfl rfl rfl ?_
        refine L.call rfl (evs.cons rfl <| evs.nil) qD qS (Told_spec (x := X) fa1 fl1 fc1 (by omega)) ?_
        rintro _ _ _ ⟨ta, tl, tc, rfl, htl, rfl, rfl⟩
        refine L.norm qA qA ?_
        refine L.ownRsl qP ?_
        refine A.backT rfl qD ?_
        refine A.branch (is := [16]) (by kernel_rfl) (by decide) (Each.cons rfl ?_ <| Each.nil) 
        refine L.guardT (dj := 35) rfl rfl rfl ?_
        refine L.call rfl (evs.cons rfl <| evs.nil) qD qS (Told_spec (x := Y) fa2 fl2 fc2 (by omega)) ?_
        rintro _ _ _ ⟨ta2, tl2, tc2, rfl, htl2, rfl, rfl⟩
        refine L.norm qA qA ?_
        refine L.ownRsl qP ?_
        refine A.backT rfl qD ?_
        refine A.branch (is := [17]) (by kernel_rfl) (by decide) (Each.cons rfl ?_ <| Each.nil) 
        refine L.guardT (dj := 35) rfl rfl rfl ?_
        refine L.callF rfl (evs.cons rfl <| evs.cons rfl <| evs.nil) qD qS (rsame_spec (l := toldT X [] 1 true true) (l2 := toldT Y [] 1 true true) (by omega)) (by rintro u D1 M1 ⟨rfl, rfl, rfl⟩; exact ⟨rfl, _, qA, qF⟩) ?_
        refine A.backT rfl qD ?_
        refine A.takeP (i := 18) rfl rfl rfl rfl (by kernel_rfl) (by kernel_rfl) (by kernel_rfl) rfl qD ?_
        refine L.guardT (dj := 35) rfl rfl rfl ?_
        refine L.neqB Try.underlying4 rfl rfl rfl ?_
        refine A.took ?_
        refine A.branch (is := [19]) (by kernel_rfl) (by decide) (Each.cons rfl ?_ <| Each.nil) 
        refine L.pickF rfl rfl rfl ?_
        refine A.backT rfl qD ?_
        refine A.takeP (i := 20) rfl rfl rfl rfl (by kernel_rfl) (by kernel_rfl) (by kernel_rfl) rfl qD ?_
        refine L.move rfl rfl ?_
        refine A.took ?_
        refine A.known (t := 45) rfl (show _ = Value.bool false from congrArg Value.bool (by simp [hts])) ?_
        refine A.takeP (i := 24) rfl rfl rfl rfl (by kernel_rfl) (by kernel_rfl) (by kernel_rfl) rfl qD ?_
        refine L.guardT (dj := 45) rfl rfl rfl ?_
        refine L.move rfl rfl ?_
        refine A.took ?_
        refine A.takeP (i := 25) rfl rfl rfl rfl (by kernel_rfl) (by kernel_rfl) (by kernel_rfl) rfl qD ?_
        refine L.guardT (dj := 45) rfl rfl rfl ?_
        refine L.eqI rfl rfl rfl ?_
        refine A.took ?_
        refine A.branch (is := [21, 22]) (by kernel_rfl) (by decide) (Each.cons rfl ?_ <| Each.cons rfl ?_ <| Each.nil) 
        · skip
          refine L.guardT (dj := 45) rfl rfl rfl ?_
          refine L.loadA rfl ag24 rfl qN ?_
          refine A.backT rfl qD ?_
          refine A.branch (is := [22]) (by kernel_rfl) (by decide) (Each.cons rfl ?_ <| Each.nil) 
          refine L.guardT (dj := 45) rfl rfl rfl ?_
          refine L.loadA rfl ag24 rfl qN ?_
          refine A.backT rfl qD ?_
          refine A.branch (is := [23]) (by kernel_rfl) (by decide) (Each.cons rfl ?_ <| Each.nil) 
          refine L.guardT (dj := 45) rfl rfl rfl ?_
          refine L.callF rfl (evs.cons rfl <| evs.cons rfl <| evs.nil) qD qS (same_spec (x := X) (z := Y) (by omega)) (by rintro u D1 M1 ⟨rfl, rfl, rfl⟩; exact ⟨rfl, _, qA, qF⟩) ?_
          refine A.backT rfl qD ?_
          refine A.takeP (i := 26) rfl rfl rfl rfl (by kernel_rfl) (by kernel_rfl) (by kernel_rfl) rfl qD ?_
          refine L.guardT (dj := 45) rfl rfl rfl ?_
          refine L.neqB Try.underlying4 rfl rfl rfl ?_
          refine A.took ?_
          refine A.branch (is := [27]) (by kernel_rfl) (by decide) (Each.cons rfl ?_ <| Each.nil) 
          refine L.pickF rfl rfl rfl ?_
          refine A.backT rfl qD ?_
          refine A.takeP (i := 28) rfl rfl rfl rfl (by kernel_rfl) (by kernel_rfl) (by kernel_rfl) rfl qD ?_
          refine L.move rfl rfl ?_
          refine A.took ?_
          refine A.known (t := 53) rfl (show _ = Value.bool false from congrArg Value.bool (by simp)) ?_
          refine A.takeP (i := 29) rfl rfl rfl rfl (by kernel_rfl) (by kernel_rfl) (by kernel_rfl) rfl qD ?_
          refine L.guardT (dj := 53) rfl rfl rfl ?_
          refine L.move rfl rfl ?_
          refine A.took ?_
          refine A.takeP (i := 30) rfl rfl rfl rfl (by kernel_rfl) (by kernel_rfl) (by kernel_rfl) rfl qD ?_
          refine L.guardT (dj := 53) rfl rfl rfl ?_
          refine L.ltI rfl rfl rfl ?_
          refine A.took ?_
          refine A.branch (is := [31]) (by kernel_rfl) (by decide) (Each.cons rfl ?_ <| Each.nil) 
          refine L.pickF rfl rfl rfl ?_
          refine A.backT rfl qD ?_
          refine A.takeP (i := 32) rfl rfl rfl rfl (by kernel_rfl) (by kernel_rfl) (by kernel_rfl) rfl qD ?_
          refine L.move rfl rfl ?_
          refine A.took ?_
          refine A.known (t := 57) rfl (show _ = Value.bool false from congrArg Value.bool (decide_eq_false (by omega))) ?_
          refine A.takeP (i := 33) rfl rfl rfl rfl (by kernel_rfl) (by kernel_rfl) (by kernel_rfl) rfl qD ?_
          refine L.guardT (dj := 57) rfl rfl rfl ?_
          refine L.move rfl rfl ?_
          refine A.took ?_
          refine A.takeP (i := 34) rfl rfl rfl rfl (by kernel_rfl) (by kernel_rfl) (by kernel_rfl) rfl qD ?_
          refine L.guardT (dj := 57) rfl rfl rfl ?_
          refine L.gtI rfl rfl rfl ?_
          refine A.took ?_
          refine A.branch (is := [35]) (by kernel_rfl) (by decide) (Each.cons rfl ?_ <| Each.nil) 
          refine L.pickF rfl rfl rfl ?_
          refine A.backT rfl qD ?_
          refine A.done (by kernel_rfl) ?_
          refine T.thenN ?_
          refine T.cond rfl (fun h60 => ?_) (fun h60 => ?_)
          · try simp only [decide_eq_true_eq, decide_eq_false_iff_not, Bool.not_eq_true', Bool.not_eq_false', Bool.and_eq_true, Bool.or_eq_true] at h60
            refine T.seq ?_
            refine T.region ?_
            refine L.assign rfl rfl ?_
            refine L.nil ?_
            refine T.thenN ?_
            refine T.ret ?_
            refine T.thenR ?_
            exact T.ret1 rfl rfl ⟨congrArg Value.bool (by unfold TrI at htr; simp_all <;> omega), rfl, rfl⟩ qD qF
          · try simp only [decide_eq_true_eq, decide_eq_false_iff_not, Bool.not_eq_true', Bool.not_eq_false', Bool.and_eq_true, Bool.or_eq_true] at h60
            refine T.skip ?_
            refine T.thenN ?_
            refine T.seq ?_
            refine T.region ?_
            refine L.move rfl rfl ?_
            refine L.leI rfl rfl rfl ?_
            refine L.move rfl rfl ?_
            refine L.part (t := 63) rfl (fun h11 => ?_) (fun h11 => ?_)
            · try simp only [decide_eq_true_eq, decide_eq_false_iff_not, Bool.not_eq_true', Bool.not_eq_false', Bool.and_eq_true, Bool.or_eq_true] at h11
              refine L.guardT (dj := 63) rfl rfl rfl ?_
              refine L.move rfl rfl ?_
              refine L.guardT (dj := 63) rfl rfl rfl ?_
              refine L.leI rfl rfl rfl ?_
              refine L.pickT rfl rfl rfl ?_
              refine L.notB rfl rfl ?_
              refine L.move rfl rfl ?_
              refine L.part (t := 68) rfl (fun h12 => ?_) (fun h12 => ?_)
              · try simp only [decide_eq_true_eq, decide_eq_false_iff_not, Bool.not_eq_true', Bool.not_eq_false', Bool.and_eq_true, Bool.or_eq_true] at h12
                refine L.guardF (dj := 68) (c := true) rfl rfl rfl rfl rfl (by decide) ?_
                refine L.guardF (dj := 68) (c := true) rfl rfl rfl rfl rfl (by decide) ?_
                refine L.guardF (dj := 68) (c := true) rfl rfl rfl rfl rfl (by decide) ?_
                refine L.guardU (dj := 71) rfl rfl rfl rfl rfl ?_
                refine L.guardU (dj := 71) rfl rfl rfl rfl rfl ?_
                refine L.guardU (dj := 71) rfl rfl rfl rfl rfl ?_
                refine L.guardU (dj := 74) rfl rfl rfl rfl rfl ?_
                refine L.guardU (dj := 74) rfl rfl rfl rfl rfl ?_
                refine L.guardU (dj := 74) rfl rfl rfl rfl rfl ?_
                refine L.guardU (dj := 77) rfl rfl rfl rfl rfl ?_
                refine L.guardU (dj := 77) rfl rfl rfl rfl rfl ?_
                refine L.guardU (dj := 74) rfl rfl rfl rfl rfl ?_
                refine L.guardU (dj := 71) rfl rfl rfl rfl rfl ?_
                refine L.guardF (dj := 68) (c := true) rfl rfl rfl rfl rfl (by decide) ?_
                refine L.pickT rfl rfl rfl ?_
                refine L.assign rfl rfl ?_
                refine L.nil ?_
                refine T.thenN ?_
                refine T.ret ?_
                exact T.ret1 rfl rfl ⟨congrArg Value.bool (by unfold TrI at htr; simp_all <;> omega), rfl, rfl⟩ qD qF
              · try simp only [decide_eq_true_eq, decide_eq_false_iff_not, Bool.not_eq_true', Bool.not_eq_false', Bool.and_eq_true, Bool.or_eq_true] at h12
                refine L.guardT (dj := 68) rfl rfl rfl ?_
                refine L.move rfl rfl ?_
                refine L.guardT (dj := 68) rfl rfl rfl ?_
                refine L.leI rfl rfl rfl ?_
                refine L.guardT (dj := 68) rfl rfl rfl ?_
                refine L.move rfl rfl ?_
                refine L.part (t := 71) rfl (fun h13 => ?_) (fun h13 => ?_)
                · try simp only [decide_eq_true_eq, decide_eq_false_iff_not, Bool.not_eq_true', Bool.not_eq_false', Bool.and_eq_true, Bool.or_eq_true] at h13
                  refine L.guardT (dj := 71) rfl rfl rfl ?_
                  refine L.move rfl rfl ?_
                  refine L.guardT (dj := 71) rfl rfl rfl ?_
                  refine L.ltI rfl rfl rfl ?_
                  refine L.guardT (dj := 71) rfl rfl rfl ?_
                  refine L.move rfl rfl ?_
                  refine L.part (t := 74) rfl (fun h14 => ?_) (fun h14 => ?_)
                  · try simp only [decide_eq_true_eq, decide_eq_false_iff_not, Bool.not_eq_true', Bool.not_eq_false', Bool.and_eq_true, Bool.or_eq_true] at h14
                    refine L.guardF (dj := 74) (c := true) rfl rfl rfl rfl rfl (by decide) ?_
                    refine L.guardF (dj := 74) (c := true) rfl rfl rfl rfl rfl (by decide) ?_
                    refine L.guardF (dj := 74) (c := true) rfl rfl rfl rfl rfl (by decide) ?_
                    refine L.guardU (dj := 77) rfl rfl rfl rfl rfl ?_
                    refine L.guardU (dj := 77) rfl rfl rfl rfl rfl ?_
                    refine L.guardF (dj := 74) (c := true) rfl rfl rfl rfl rfl (by decide) ?_
                    refine L.guardT (dj := 71) rfl rfl rfl ?_
                    refine L.pickT rfl rfl rfl ?_
                    refine L.guardT (dj := 68) rfl rfl rfl ?_
                    refine L.pickT rfl rfl rfl ?_
                    refine L.pickF rfl rfl rfl ?_
                    refine L.assign rfl rfl ?_
                    refine L.nil ?_
                    refine T.thenN ?_
                    refine T.ret ?_
                    exact T.ret1 rfl rfl ⟨congrArg Value.bool (by unfold TrI at htr; simp_all <;> omega), rfl, rfl⟩ qD qF
                  · try simp only [decide_eq_true_eq, decide_eq_false_iff_not, Bool.not_eq_true', Bool.not_eq_false', Bool.and_eq_true, Bool.or_eq_true] at h14
                    refine L.guardT (dj := 74) rfl rfl rfl ?_
                    refine L.move rfl rfl ?_
                    refine L.guardT (dj := 74) rfl rfl rfl ?_
                    refine L.eqI rfl rfl rfl ?_
                    refine L.guardT (dj := 74) rfl rfl rfl ?_
                    refine L.move rfl rfl ?_
                    refine L.part (t := 77) rfl (fun h15 => ?_) (fun h15 => ?_)
                    · try simp only [decide_eq_true_eq, decide_eq_false_iff_not, Bool.not_eq_true', Bool.not_eq_false', Bool.and_eq_true, Bool.or_eq_true] at h15
                      refine L.guardT (dj := 77) rfl rfl rfl ?_
                      refine L.move rfl rfl ?_
                      refine L.guardT (dj := 77) rfl rfl rfl ?_
                      refine L.eqI rfl rfl rfl ?_
                      refine L.guardT (dj := 74) rfl rfl rfl ?_
                      refine L.pickT rfl rfl rfl ?_
                      refine L.guardT (dj := 71) rfl rfl rfl ?_
                      refine L.pickF rfl rfl rfl ?_
                      refine L.guardT (dj := 68) rfl rfl rfl ?_
                      refine L.pickT rfl rfl rfl ?_
                      refine L.pickF rfl rfl rfl ?_
                      refine L.assign rfl rfl ?_
                      refine L.nil ?_
                      refine T.thenN ?_
                      refine T.ret ?_
                      exact T.ret1 rfl rfl ⟨congrArg Value.bool (by unfold TrI at htr; simp_all <;> omega), rfl, rfl⟩ qD qF
                    · try simp only [decide_eq_true_eq, decide_eq_false_iff_not, Bool.not_eq_true', Bool.not_eq_false', Bool.and_eq_true, Bool.or_eq_true] at h15
                      refine L.guardF (dj := 77) (c := false) rfl rfl rfl rfl rfl (by decide) ?_
                      refine L.guardF (dj := 77) (c := false) rfl rfl rfl rfl rfl (by decide) ?_
                      refine L.guardT (dj := 74) rfl rfl rfl ?_
                      refine L.pickF rfl rfl rfl ?_
                      refine L.guardT (dj := 71) rfl rfl rfl ?_
                      refine L.pickF rfl rfl rfl ?_
                      refine L.guardT (dj := 68) rfl rfl rfl ?_
                      refine L.pickT rfl rfl rfl ?_
                      refine L.pickF rfl rfl rfl ?_
                      refine L.assign rfl rfl ?_
                      refine L.nil ?_
                      refine T.thenN ?_
                      refine T.ret ?_
                      exact T.ret1 rfl rfl ⟨congrArg Value.bool (by unfold TrI at htr; simp_all <;> omega), rfl, rfl⟩ qD qF
                · try simp only [decide_eq_true_eq, decide_eq_false_iff_not, Bool.not_eq_true', Bool.not_eq_false', Bool.and_eq_true, Bool.or_eq_true] at h13
                  refine L.guardF (dj := 71) (c := false) rfl rfl rfl rfl rfl (by decide) ?_
                  refine L.guardF (dj := 71) (c := false) rfl rfl rfl rfl rfl (by decide) ?_
                  refine L.guardF (dj := 71) (c := false) rfl rfl rfl rfl rfl (by decide) ?_
                  refine L.guardU (dj := 74) rfl rfl rfl rfl rfl ?_
                  refine L.guardU (dj := 74) rfl rfl rfl rfl rfl ?_
                  refine L.guardU (dj := 74) rfl rfl rfl rfl rfl ?_
                  refine L.guardU (dj := 77) rfl rfl rfl rfl rfl ?_
                  refine L.guardU (dj := 77) rfl rfl rfl rfl rfl ?_
                  refine L.guardU (dj := 74) rfl rfl rfl rfl rfl ?_
                  refine L.guardF (dj := 71) (c := false) rfl rfl rfl rfl rfl (by decide) ?_
                  refine L.guardT (dj := 68) rfl rfl rfl ?_
                  refine L.pickF rfl rfl rfl ?_
                  refine L.pickF rfl rfl rfl ?_
                  refine L.assign rfl rfl ?_
                  refine L.nil ?_
                  refine T.thenN ?_
                  refine T.ret ?_
                  exact T.ret1 rfl rfl ⟨congrArg Value.bool (by unfold TrI at htr; simp_all <;> omega), rfl, rfl⟩ qD qF
            · try simp only [decide_eq_true_eq, decide_eq_false_iff_not, Bool.not_eq_true', Bool.not_eq_false', Bool.and_eq_true, Bool.or_eq_true] at h11
              refine L.guardF (dj := 63) (c := false) rfl rfl rfl rfl rfl (by decide) ?_
              refine L.guardF (dj := 63) (c := false) rfl rfl rfl rfl rfl (by decide) ?_
              refine L.pickF rfl rfl rfl ?_
              refine L.notB rfl rfl ?_
              refine L.move rfl rfl ?_
              refine L.guardF (dj := 68) (c := true) rfl rfl rfl rfl rfl (by decide) ?_
              refine L.guardF (dj := 68) (c := true) rfl rfl rfl rfl rfl (by decide) ?_
              refine L.guardF (dj := 68) (c := true) rfl rfl rfl rfl rfl (by decide) ?_
              refine L.guardU (dj := 71) rfl rfl rfl rfl rfl ?_
              refine L.guardU (dj := 71) rfl rfl rfl rfl rfl ?_
              refine L.guardU (dj := 71) rfl rfl rfl rfl rfl ?_
              refine L.guardU (dj := 74) rfl rfl rfl rfl rfl ?_
              refine L.guardU (dj := 74) rfl rfl rfl rfl rfl ?_
              refine L.guardU (dj := 74) rfl rfl rfl rfl rfl ?_
              refine L.guardU (dj := 77) rfl rfl rfl rfl rfl ?_
              refine L.guardU (dj := 77) rfl rfl rfl rfl rfl ?_
              refine L.guardU (dj := 74) rfl rfl rfl rfl rfl ?_
              refine L.guardU (dj := 71) rfl rfl rfl rfl rfl ?_
              refine L.guardF (dj := 68) (c := true) rfl rfl rfl rfl rfl (by decide) ?_
              refine L.pickT rfl rfl rfl ?_
              refine L.assign rfl rfl ?_
              refine L.nil ?_
              refine T.thenN ?_
              refine T.ret ?_
              exact T.ret1 rfl rfl ⟨congrArg Value.bool (by unfold TrI at htr; simp_all <;> omega), rfl, rfl⟩ qD qF
        · skip
          refine L.guardT (dj := 45) rfl rfl rfl ?_
          refine L.loadA rfl ag24 rfl qN ?_
          refine A.backT rfl qD ?_
          refine A.branch (is := [21]) (by kernel_rfl) (by decide) (Each.cons rfl ?_ <| Each.nil) 
          refine L.guardT (dj := 45) rfl rfl rfl ?_
          refine L.loadA rfl ag24 rfl qN ?_
          refine A.backT rfl qD ?_
          refine A.branch (is := [23]) (by kernel_rfl) (by decide) (Each.cons rfl ?_ <| Each.nil) 
          refine L.guardT (dj := 45) rfl rfl rfl ?_
          refine L.callF rfl (evs.cons rfl <| evs.cons rfl <| evs.nil) qD qS (same_spec (x := X) (z := Y) (by omega)) (by rintro u D1 M1 ⟨rfl, rfl, rfl⟩; exact ⟨rfl, _, qA, qF⟩) ?_
          refine A.backT rfl qD ?_
          refine A.takeP (i := 26) rfl rfl rfl rfl (by kernel_rfl) (by kernel_rfl) (by kernel_rfl) rfl qD ?_
          refine L.guardT (dj := 45) rfl rfl rfl ?_
          refine L.neqB Try.underlying4 rfl rfl rfl ?_
          refine A.took ?_
          refine A.branch (is := [27]) (by kernel_rfl) (by decide) (Each.cons rfl ?_ <| Each.nil) 
          refine L.pickF rfl rfl rfl ?_
          refine A.backT rfl qD ?_
          refine A.takeP (i := 28) rfl rfl rfl rfl (by kernel_rfl) (by kernel_rfl) (by kernel_rfl) rfl qD ?_
          refine L.move rfl rfl ?_
          refine A.took ?_
          refine A.known (t := 53) rfl (show _ = Value.bool false from congrArg Value.bool (by simp)) ?_
          refine A.takeP (i := 29) rfl rfl rfl rfl (by kernel_rfl) (by kernel_rfl) (by kernel_rfl) rfl qD ?_
          refine L.guardT (dj := 53) rfl rfl rfl ?_
          refine L.move rfl rfl ?_
          refine A.took ?_
          refine A.takeP (i := 30) rfl rfl rfl rfl (by kernel_rfl) (by kernel_rfl) (by kernel_rfl) rfl qD ?_
          refine L.guardT (dj := 53) rfl rfl rfl ?_
          refine L.ltI rfl rfl rfl ?_
          refine A.took ?_
          refine A.branch (is := [31]) (by kernel_rfl) (by decide) (Each.cons rfl ?_ <| Each.nil) 
          refine L.pickF rfl rfl rfl ?_
          refine A.backT rfl qD ?_
          refine A.takeP (i := 32) rfl rfl rfl rfl (by kernel_rfl) (by kernel_rfl) (by kernel_rfl) rfl qD ?_
          refine L.move rfl rfl ?_
          refine A.took ?_
          refine A.known (t := 57) rfl (show _ = Value.bool false from congrArg Value.bool (decide_eq_false (by omega))) ?_
          refine A.takeP (i := 33) rfl rfl rfl rfl (by kernel_rfl) (by kernel_rfl) (by kernel_rfl) rfl qD ?_
          refine L.guardT (dj := 57) rfl rfl rfl ?_
          refine L.move rfl rfl ?_
          refine A.took ?_
          refine A.takeP (i := 34) rfl rfl rfl rfl (by kernel_rfl) (by kernel_rfl) (by kernel_rfl) rfl qD ?_
          refine L.guardT (dj := 57) rfl rfl rfl ?_
          refine L.gtI rfl rfl rfl ?_
          refine A.took ?_
          refine A.branch (is := [35]) (by kernel_rfl) (by decide) (Each.cons rfl ?_ <| Each.nil) 
          refine L.pickF rfl rfl rfl ?_
          refine A.backT rfl qD ?_
          refine A.done (by kernel_rfl) ?_
          refine T.thenN ?_
          refine T.cond rfl (fun h60 => ?_) (fun h60 => ?_)
          · try simp only [decide_eq_true_eq, decide_eq_false_iff_not, Bool.not_eq_true', Bool.not_eq_false', Bool.and_eq_true, Bool.or_eq_true] at h60
            refine T.seq ?_
            refine T.region ?_
            refine L.assign rfl rfl ?_
            refine L.nil ?_
            refine T.thenN ?_
            refine T.ret ?_
            refine T.thenR ?_
            exact T.ret1 rfl rfl ⟨congrArg Value.bool (by unfold TrI at htr; simp_all <;> omega), rfl, rfl⟩ qD qF
          · try simp only [decide_eq_true_eq, decide_eq_false_iff_not, Bool.not_eq_true', Bool.not_eq_false', Bool.and_eq_true, Bool.or_eq_true] at h60
            refine T.skip ?_
            refine T.thenN ?_
            refine T.seq ?_
            refine T.region ?_
            refine L.move rfl rfl ?_
            refine L.leI rfl rfl rfl ?_
            refine L.move rfl rfl ?_
            refine L.part (t := 63) rfl (fun h16 => ?_) (fun h16 => ?_)
            · try simp only [decide_eq_true_eq, decide_eq_false_iff_not, Bool.not_eq_true', Bool.not_eq_false', Bool.and_eq_true, Bool.or_eq_true] at h16
              refine L.guardT (dj := 63) rfl rfl rfl ?_
              refine L.move rfl rfl ?_
              refine L.guardT (dj := 63) rfl rfl rfl ?_
              refine L.leI rfl rfl rfl ?_
              refine L.pickT rfl rfl rfl ?_
              refine L.notB rfl rfl ?_
              refine L.move rfl rfl ?_
              refine L.part (t := 68) rfl (fun h17 => ?_) (fun h17 => ?_)
              · try simp only [decide_eq_true_eq, decide_eq_false_iff_not, Bool.not_eq_true', Bool.not_eq_false', Bool.and_eq_true, Bool.or_eq_true] at h17
                refine L.guardF (dj := 68) (c := true) rfl rfl rfl rfl rfl (by decide) ?_
                refine L.guardF (dj := 68) (c := true) rfl rfl rfl rfl rfl (by decide) ?_
                refine L.guardF (dj := 68) (c := true) rfl rfl rfl rfl rfl (by decide) ?_
                refine L.guardU (dj := 71) rfl rfl rfl rfl rfl ?_
                refine L.guardU (dj := 71) rfl rfl rfl rfl rfl ?_
                refine L.guardU (dj := 71) rfl rfl rfl rfl rfl ?_
                refine L.guardU (dj := 74) rfl rfl rfl rfl rfl ?_
                refine L.guardU (dj := 74) rfl rfl rfl rfl rfl ?_
                refine L.guardU (dj := 74) rfl rfl rfl rfl rfl ?_
                refine L.guardU (dj := 77) rfl rfl rfl rfl rfl ?_
                refine L.guardU (dj := 77) rfl rfl rfl rfl rfl ?_
                refine L.guardU (dj := 74) rfl rfl rfl rfl rfl ?_
                refine L.guardU (dj := 71) rfl rfl rfl rfl rfl ?_
                refine L.guardF (dj := 68) (c := true) rfl rfl rfl rfl rfl (by decide) ?_
                refine L.pickT rfl rfl rfl ?_
                refine L.assign rfl rfl ?_
                refine L.nil ?_
                refine T.thenN ?_
                refine T.ret ?_
                exact T.ret1 rfl rfl ⟨congrArg Value.bool (by unfold TrI at htr; simp_all <;> omega), rfl, rfl⟩ qD qF
              · try simp only [decide_eq_true_eq, decide_eq_false_iff_not, Bool.not_eq_true', Bool.not_eq_false', Bool.and_eq_true, Bool.or_eq_true] at h17
                refine L.guardT (dj := 68) rfl rfl rfl ?_
                refine L.move rfl rfl ?_
                refine L.guardT (dj := 68) rfl rfl rfl ?_
                refine L.leI rfl rfl rfl ?_
                refine L.guardT (dj := 68) rfl rfl rfl ?_
                refine L.move rfl rfl ?_
                refine L.part (t := 71) rfl (fun h18 => ?_) (fun h18 => ?_)
                · try simp only [decide_eq_true_eq, decide_eq_false_iff_not, Bool.not_eq_true', Bool.not_eq_false', Bool.and_eq_true, Bool.or_eq_true] at h18
                  refine L.guardT (dj := 71) rfl rfl rfl ?_
                  refine L.move rfl rfl ?_
                  refine L.guardT (dj := 71) rfl rfl rfl ?_
                  refine L.ltI rfl rfl rfl ?_
                  refine L.guardT (dj := 71) rfl rfl rfl ?_
                  refine L.move rfl rfl ?_
                  refine L.part (t := 74) rfl (fun h19 => ?_) (fun h19 => ?_)
                  · try simp only [decide_eq_true_eq, decide_eq_false_iff_not, Bool.not_eq_true', Bool.not_eq_false', Bool.and_eq_true, Bool.or_eq_true] at h19
                    refine L.guardF (dj := 74) (c := true) rfl rfl rfl rfl rfl (by decide) ?_
                    refine L.guardF (dj := 74) (c := true) rfl rfl rfl rfl rfl (by decide) ?_
                    refine L.guardF (dj := 74) (c := true) rfl rfl rfl rfl rfl (by decide) ?_
                    refine L.guardU (dj := 77) rfl rfl rfl rfl rfl ?_
                    refine L.guardU (dj := 77) rfl rfl rfl rfl rfl ?_
                    refine L.guardF (dj := 74) (c := true) rfl rfl rfl rfl rfl (by decide) ?_
                    refine L.guardT (dj := 71) rfl rfl rfl ?_
                    refine L.pickT rfl rfl rfl ?_
                    refine L.guardT (dj := 68) rfl rfl rfl ?_
                    refine L.pickT rfl rfl rfl ?_
                    refine L.pickF rfl rfl rfl ?_
                    refine L.assign rfl rfl ?_
                    refine L.nil ?_
                    refine T.thenN ?_
                    refine T.ret ?_
                    exact T.ret1 rfl rfl ⟨congrArg Value.bool (by unfold TrI at htr; simp_all <;> omega), rfl, rfl⟩ qD qF
                  · try simp only [decide_eq_true_eq, decide_eq_false_iff_not, Bool.not_eq_true', Bool.not_eq_false', Bool.and_eq_true, Bool.or_eq_true] at h19
                    refine L.guardT (dj := 74) rfl rfl rfl ?_
                    refine L.move rfl rfl ?_
                    refine L.guardT (dj := 74) rfl rfl rfl ?_
                    refine L.eqI rfl rfl rfl ?_
                    refine L.guardT (dj := 74) rfl rfl rfl ?_
                    refine L.move rfl rfl ?_
                    refine L.part (t := 77) rfl (fun h20 => ?_) (fun h20 => ?_)
                    · try simp only [decide_eq_true_eq, decide_eq_false_iff_not, Bool.not_eq_true', Bool.not_eq_false', Bool.and_eq_true, Bool.or_eq_true] at h20
                      refine L.guardT (dj := 77) rfl rfl rfl ?_
                      refine L.move rfl rfl ?_
                      refine L.guardT (dj := 77) rfl rfl rfl ?_
                      refine L.eqI rfl rfl rfl ?_
                      refine L.guardT (dj := 74) rfl rfl rfl ?_
                      refine L.pickT rfl rfl rfl ?_
                      refine L.guardT (dj := 71) rfl rfl rfl ?_
                      refine L.pickF rfl rfl rfl ?_
                      refine L.guardT (dj := 68) rfl rfl rfl ?_
                      refine L.pickT rfl rfl rfl ?_
                      refine L.pickF rfl rfl rfl ?_
                      refine L.assign rfl rfl ?_
                      refine L.nil ?_
                      refine T.thenN ?_
                      refine T.ret ?_
                      exact T.ret1 rfl rfl ⟨congrArg Value.bool (by unfold TrI at htr; simp_all <;> omega), rfl, rfl⟩ qD qF
                    · try simp only [decide_eq_true_eq, decide_eq_false_iff_not, Bool.not_eq_true', Bool.not_eq_false', Bool.and_eq_true, Bool.or_eq_true] at h20
                      refine L.guardF (dj := 77) (c := false) rfl rfl rfl rfl rfl (by decide) ?_
                      refine L.guardF (dj := 77) (c := false) rfl rfl rfl rfl rfl (by decide) ?_
                      refine L.guardT (dj := 74) rfl rfl rfl ?_
                      refine L.pickF rfl rfl rfl ?_
                      refine L.guardT (dj := 71) rfl rfl rfl ?_
                      refine L.pickF rfl rfl rfl ?_
                      refine L.guardT (dj := 68) rfl rfl rfl ?_
                      refine L.pickT rfl rfl rfl ?_
                      refine L.pickF rfl rfl rfl ?_
                      refine L.assign rfl rfl ?_
                      refine L.nil ?_
                      refine T.thenN ?_
                      refine T.ret ?_
                      exact T.ret1 rfl rfl ⟨congrArg Value.bool (by unfold TrI at htr; simp_all <;> omega), rfl, rfl⟩ qD qF
                · try simp only [decide_eq_true_eq, decide_eq_false_iff_not, Bool.not_eq_true', Bool.not_eq_false', Bool.and_eq_true, Bool.or_eq_true] at h18
                  refine L.guardF (dj := 71) (c := false) rfl rfl rfl rfl rfl (by decide) ?_
                  refine L.guardF (dj := 71) (c := false) rfl rfl rfl rfl rfl (by decide) ?_
                  refine L.guardF (dj := 71) (c := false) rfl rfl rfl rfl rfl (by decide) ?_
                  refine L.guardU (dj := 74) rfl rfl rfl rfl rfl ?_
                  refine L.guardU (dj := 74) rfl rfl rfl rfl rfl ?_
                  refine L.guardU (dj := 74) rfl rfl rfl rfl rfl ?_
                  refine L.guardU (dj := 77) rfl rfl rfl rfl rfl ?_
                  refine L.guardU (dj := 77) rfl rfl rfl rfl rfl ?_
                  refine L.guardU (dj := 74) rfl rfl rfl rfl rfl ?_
                  refine L.guardF (dj := 71) (c := false) rfl rfl rfl rfl rfl (by decide) ?_
                  refine L.guardT (dj := 68) rfl rfl rfl ?_
                  refine L.pickF rfl rfl rfl ?_
                  refine L.pickF rfl rfl rfl ?_
                  refine L.assign rfl rfl ?_
                  refine L.nil ?_
                  refine T.thenN ?_
                  refine T.ret ?_
                  exact T.ret1 rfl rfl ⟨congrArg Value.bool (by unfold TrI at htr; simp_all <;> omega), rfl, rfl⟩ qD qF
            · try simp only [decide_eq_true_eq, decide_eq_false_iff_not, Bool.not_eq_true', Bool.not_eq_false', Bool.and_eq_true, Bool.or_eq_true] at h16
              refine L.guardF (dj := 63) (c := false) rfl rfl rfl rfl rfl (by decide) ?_
              refine L.guardF (dj := 63) (c := false) rfl rfl rfl rfl rfl (by decide) ?_
              refine L.pickF rfl rfl rfl ?_
              refine L.notB rfl rfl ?_
              refine L.move rfl rfl ?_
              refine L.guardF (dj := 68) (c := true) rfl rfl rfl rfl rfl (by decide) ?_
              refine L.guardF (dj := 68) (c := true) rfl rfl rfl rfl rfl (by decide) ?_
              refine L.guardF (dj := 68) (c := true) rfl rfl rfl rfl rfl (by decide) ?_
              refine L.guardU (dj := 71) rfl rfl rfl rfl rfl ?_
              refine L.guardU (dj := 71) rfl rfl rfl rfl rfl ?_
              refine L.guardU (dj := 71) rfl rfl rfl rfl rfl ?_
              refine L.guardU (dj := 74) rfl rfl rfl rfl rfl ?_
              refine L.guardU (dj := 74) rfl rfl rfl rfl rfl ?_
              refine L.guardU (dj := 74) rfl rfl rfl rfl rfl ?_
              refine L.guardU (dj := 77) rfl rfl rfl rfl rfl ?_
              refine L.guardU (dj := 77) rfl rfl rfl rfl rfl ?_
              refine L.guardU (dj := 74) rfl rfl rfl rfl rfl ?_
              refine L.guardU (dj := 71) rfl rfl rfl rfl rfl ?_
              refine L.guardF (dj := 68) (c := true) rfl rfl rfl rfl rfl (by decide) ?_
              refine L.pickT rfl rfl rfl ?_
              refine L.assign rfl rfl ?_
              refine L.nil ?_
              refine T.thenN ?_
              refine T.ret ?_
              exact T.ret1 rfl rfl ⟨congrArg Value.bool (by unfold TrI at htr; simp_all <;> omega), rfl, rfl⟩ qD qF
    · skip
      refine L.guardT (dj := 35) rfl rfl rfl ?_
      refine L.loadA rfl ag24 rfl qN ?_
      refine A.backT rfl qD ?_
      refine A.branch (is := [13]) (by kernel_rfl) (by decide) (Each.cons rfl ?_ <| Each.nil) 
      refine L.guardT (dj := 35) rfl rfl rfl ?_
      refine L.loadA rfl ag24 rfl qN ?_
      refine A.backT rfl qD ?_
      refine A.branch (is := [14]) (by kernel_rfl) (by decide) (Each.cons rfl ?_ <| Each.nil) 
      refine L.guardT (dj := 35) rfl rfl rfl ?_
      refine L.call rfl (evs.cons rfl <| evs.nil) qD qS (Told_spec (x := X) fa1 fl1 fc1 (by omega)) ?_
      rintro _ _ _ ⟨ta, tl, tc, rfl, htl, rfl, rfl⟩
      refine L.norm qA qA ?_
      refine L.ownRsl qP ?_
      refine A.backT rfl qD ?_
      refine A.branch (is := [16]) (by kernel_rfl) (by decide) (Each.cons rfl ?_ <| Each.nil) 
      refine L.guardT (dj := 35) rfl rfl rfl ?_
      refine L.call rfl (evs.cons rfl <| evs.nil) qD qS (Told_spec (x := Y) fa2 fl2 fc2 (by omega)) ?_
      rintro _ _ _ ⟨ta2, tl2, tc2, rfl, htl2, rfl, rfl⟩
      refine L.norm qA qA ?_
      refine L.ownRsl qP ?_
      refine A.backT rfl qD ?_
      refine A.branch (is := [17]) (by kernel_rfl) (by decide) (Each.cons rfl ?_ <| Each.nil) 
      refine L.guardT (dj := 35) rfl rfl rfl ?_
      refine L.callF rfl (evs.cons rfl <| evs.cons rfl <| evs.nil) qD qS (rsame_spec (l := toldT X [] 1 true true) (l2 := toldT Y [] 1 true true) (by omega)) (by rintro u D1 M1 ⟨rfl, rfl, rfl⟩; exact ⟨rfl, _, qA, qF⟩) ?_
      refine A.backT rfl qD ?_
      refine A.takeP (i := 18) rfl rfl rfl rfl (by kernel_rfl) (by kernel_rfl) (by kernel_rfl) rfl qD ?_
      refine L.guardT (dj := 35) rfl rfl rfl ?_
      refine L.neqB Try.underlying4 rfl rfl rfl ?_
      refine A.took ?_
      refine A.branch (is := [19]) (by kernel_rfl) (by decide) (Each.cons rfl ?_ <| Each.nil) 
      refine L.pickF rfl rfl rfl ?_
      refine A.backT rfl qD ?_
      refine A.takeP (i := 20) rfl rfl rfl rfl (by kernel_rfl) (by kernel_rfl) (by kernel_rfl) rfl qD ?_
      refine L.move rfl rfl ?_
      refine A.took ?_
      refine A.known (t := 45) rfl (show _ = Value.bool false from congrArg Value.bool (by simp [hts])) ?_
      refine A.takeP (i := 24) rfl rfl rfl rfl (by kernel_rfl) (by kernel_rfl) (by kernel_rfl) rfl qD ?_
      refine L.guardT (dj := 45) rfl rfl rfl ?_
      refine L.move rfl rfl ?_
      refine A.took ?_
      refine A.takeP (i := 25) rfl rfl rfl rfl (by kernel_rfl) (by kernel_rfl) (by kernel_rfl) rfl qD ?_
      refine L.guardT (dj := 45) rfl rfl rfl ?_
      refine L.eqI rfl rfl rfl ?_
      refine A.took ?_
      refine A.branch (is := [21, 22]) (by kernel_rfl) (by decide) (Each.cons rfl ?_ <| Each.cons rfl ?_ <| Each.nil) 
      · skip
        refine L.guardT (dj := 45) rfl rfl rfl ?_
        refine L.loadA rfl ag24 rfl qN ?_
        refine A.backT rfl qD ?_
        refine A.branch (is := [22]) (by kernel_rfl) (by decide) (Each.cons rfl ?_ <| Each.nil) 
        refine L.guardT (dj := 45) rfl rfl rfl ?_
        refine L.loadA rfl ag24 rfl qN ?_
        refine A.backT rfl qD ?_
        refine A.branch (is := [23]) (by kernel_rfl) (by decide) (Each.cons rfl ?_ <| Each.nil) 
        refine L.guardT (dj := 45) rfl rfl rfl ?_
        refine L.callF rfl (evs.cons rfl <| evs.cons rfl <| evs.nil) qD qS (same_spec (x := X) (z := Y) (by omega)) (by rintro u D1 M1 ⟨rfl, rfl, rfl⟩; exact ⟨rfl, _, qA, qF⟩) ?_
        refine A.backT rfl qD ?_
        refine A.takeP (i := 26) rfl rfl rfl rfl (by kernel_rfl) (by kernel_rfl) (by kernel_rfl) rfl qD ?_
        refine L.guardT (dj := 45) rfl rfl rfl ?_
        refine L.neqB Try.underlying4 rfl rfl rfl ?_
        refine A.took ?_
        refine A.branch (is := [27]) (by kernel_rfl) (by decide) (Each.cons rfl ?_ <| Each.nil) 
        refine L.pickF rfl rfl rfl ?_
        refine A.backT rfl qD ?_
        refine A.takeP (i := 28) rfl rfl rfl rfl (by kernel_rfl) (by kernel_rfl) (by kernel_rfl) rfl qD ?_
        refine L.move rfl rfl ?_
        refine A.took ?_
        refine A.known (t := 53) rfl (show _ = Value.bool false from congrArg Value.bool (by simp)) ?_
        refine A.takeP (i := 29) rfl rfl rfl rfl (by kernel_rfl) (by kernel_rfl) (by kernel_rfl) rfl qD ?_
        refine L.guardT (dj := 53) rfl rfl rfl ?_
        refine L.move rfl rfl ?_
        refine A.took ?_
        refine A.takeP (i := 30) rfl rfl rfl rfl (by kernel_rfl) (by kernel_rfl) (by kernel_rfl) rfl qD ?_
        refine L.guardT (dj := 53) rfl rfl rfl ?_
        refine L.ltI rfl rfl rfl ?_
        refine A.took ?_
        refine A.branch (is := [31]) (by kernel_rfl) (by decide) (Each.cons rfl ?_ <| Each.nil) 
        refine L.pickF rfl rfl rfl ?_
        refine A.backT rfl qD ?_
        refine A.takeP (i := 32) rfl rfl rfl rfl (by kernel_rfl) (by kernel_rfl) (by kernel_rfl) rfl qD ?_
        refine L.move rfl rfl ?_
        refine A.took ?_
        refine A.known (t := 57) rfl (show _ = Value.bool false from congrArg Value.bool (decide_eq_false (by omega))) ?_
        refine A.takeP (i := 33) rfl rfl rfl rfl (by kernel_rfl) (by kernel_rfl) (by kernel_rfl) rfl qD ?_
        refine L.guardT (dj := 57) rfl rfl rfl ?_
        refine L.move rfl rfl ?_
        refine A.took ?_
        refine A.takeP (i := 34) rfl rfl rfl rfl (by kernel_rfl) (by kernel_rfl) (by kernel_rfl) rfl qD ?_
        refine L.guardT (dj := 57) rfl rfl rfl ?_
        refine L.gtI rfl rfl rfl ?_
        refine A.took ?_
        refine A.branch (is := [35]) (by kernel_rfl) (by decide) (Each.cons rfl ?_ <| Each.nil) 
        refine L.pickF rfl rfl rfl ?_
        refine A.backT rfl qD ?_
        refine A.done (by kernel_rfl) ?_
        refine T.thenN ?_
        refine T.cond rfl (fun h60 => ?_) (fun h60 => ?_)
        · try simp only [decide_eq_true_eq, decide_eq_false_iff_not, Bool.not_eq_true', Bool.not_eq_false', Bool.and_eq_true, Bool.or_eq_true] at h60
          refine T.seq ?_
          refine T.region ?_
          refine L.assign rfl rfl ?_
          refine L.nil ?_
          refine T.thenN ?_
          refine T.ret ?_
          refine T.thenR ?_
          exact T.ret1 rfl rfl ⟨congrArg Value.bool (by unfold TrI at htr; simp_all <;> omega), rfl, rfl⟩ qD qF
        · try simp only [decide_eq_true_eq, decide_eq_false_iff_not, Bool.not_eq_true', Bool.not_eq_false', Bool.and_eq_true, Bool.or_eq_true] at h60
          refine T.skip ?_
          refine T.thenN ?_
          refine T.seq ?_
          refine T.region ?_
          refine L.move rfl rfl ?_
          refine L.leI rfl rfl rfl ?_
          refine L.move rfl rfl ?_
          refine L.part (t := 63) rfl (fun h21 => ?_) (fun h21 => ?_)
          · try simp only [decide_eq_true_eq, decide_eq_false_iff_not, Bool.not_eq_true', Bool.not_eq_false', Bool.and_eq_true, Bool.or_eq_true] at h21
            refine L.guardT (dj := 63) rfl rfl rfl ?_
            refine L.move rfl rfl ?_
            refine L.guardT (dj := 63) rfl rfl rfl ?_
            refine L.leI rfl rfl rfl ?_
            refine L.pickT rfl rfl rfl ?_
            refine L.notB rfl rfl ?_
            refine L.move rfl rfl ?_
            refine L.part (t := 68) rfl (fun h22 => ?_) (fun h22 => ?_)
            · try simp only [decide_eq_true_eq, decide_eq_false_iff_not, Bool.not_eq_true', Bool.not_eq_false', Bool.and_eq_true, Bool.or_eq_true] at h22
              refine L.guardF (dj := 68) (c := true) rfl rfl rfl rfl rfl (by decide) ?_
              refine L.guardF (dj := 68) (c := true) rfl rfl rfl rfl rfl (by decide) ?_
              refine L.guardF (dj := 68) (c := true) rfl rfl rfl rfl rfl (by decide) ?_
              refine L.guardU (dj := 71) rfl rfl rfl rfl rfl ?_
              refine L.guardU (dj := 71) rfl rfl rfl rfl rfl ?_
              refine L.guardU (dj := 71) rfl rfl rfl rfl rfl ?_
              refine L.guardU (dj := 74) rfl rfl rfl rfl rfl ?_
              refine L.guardU (dj := 74) rfl rfl rfl rfl rfl ?_
              refine L.guardU (dj := 74) rfl rfl rfl rfl rfl ?_
              refine L.guardU (dj := 77) rfl rfl rfl rfl rfl ?_
              refine L.guardU (dj := 77) rfl rfl rfl rfl rfl ?_
              refine L.guardU (dj := 74) rfl rfl rfl rfl rfl ?_
              refine L.guardU (dj := 71) rfl rfl rfl rfl rfl ?_
              refine L.guardF (dj := 68) (c := true) rfl rfl rfl rfl rfl (by decide) ?_
              refine L.pickT rfl rfl rfl ?_
              refine L.assign rfl rfl ?_
              refine L.nil ?_
              refine T.thenN ?_
              refine T.ret ?_
              exact T.ret1 rfl rfl ⟨congrArg Value.bool (by unfold TrI at htr; simp_all <;> omega), rfl, rfl⟩ qD qF
            · try simp only [decide_eq_true_eq, decide_eq_false_iff_not, Bool.not_eq_true', Bool.not_eq_false', Bool.and_eq_true, Bool.or_eq_true] at h22
              refine L.guardT (dj := 68) rfl rfl rfl ?_
              refine L.move rfl rfl ?_
              refine L.guardT (dj := 68) rfl rfl rfl ?_
              refine L.leI rfl rfl rfl ?_
              refine L.guardT (dj := 68) rfl rfl rfl ?_
              refine L.move rfl rfl ?_
              refine L.part (t := 71) rfl (fun h23 => ?_) (fun h23 => ?_)
              · try simp only [decide_eq_true_eq, decide_eq_false_iff_not, Bool.not_eq_true', Bool.not_eq_false', Bool.and_eq_true, Bool.or_eq_true] at h23
                refine L.guardT (dj := 71) rfl rfl rfl ?_
                refine L.move rfl rfl ?_
                refine L.guardT (dj := 71) rfl rfl rfl ?_
                refine L.ltI rfl rfl rfl ?_
                refine L.guardT (dj := 71) rfl rfl rfl ?_
                refine L.move rfl rfl ?_
                refine L.part (t := 74) rfl (fun h24 => ?_) (fun h24 => ?_)
                · try simp only [decide_eq_true_eq, decide_eq_false_iff_not, Bool.not_eq_true', Bool.not_eq_false', Bool.and_eq_true, Bool.or_eq_true] at h24
                  refine L.guardF (dj := 74) (c := true) rfl rfl rfl rfl rfl (by decide) ?_
                  refine L.guardF (dj := 74) (c := true) rfl rfl rfl rfl rfl (by decide) ?_
                  refine L.guardF (dj := 74) (c := true) rfl rfl rfl rfl rfl (by decide) ?_
                  refine L.guardU (dj := 77) rfl rfl rfl rfl rfl ?_
                  refine L.guardU (dj := 77) rfl rfl rfl rfl rfl ?_
                  refine L.guardF (dj := 74) (c := true) rfl rfl rfl rfl rfl (by decide) ?_
                  refine L.guardT (dj := 71) rfl rfl rfl ?_
                  refine L.pickT rfl rfl rfl ?_
                  refine L.guardT (dj := 68) rfl rfl rfl ?_
                  refine L.pickT rfl rfl rfl ?_
                  refine L.pickF rfl rfl rfl ?_
                  refine L.assign rfl rfl ?_
                  refine L.nil ?_
                  refine T.thenN ?_
                  refine T.ret ?_
                  exact T.ret1 rfl rfl ⟨congrArg Value.bool (by unfold TrI at htr; simp_all <;> omega), rfl, rfl⟩ qD qF
                · try simp only [decide_eq_true_eq, decide_eq_false_iff_not, Bool.not_eq_true', Bool.not_eq_false', Bool.and_eq_true, Bool.or_eq_true] at h24
                  refine L.guardT (dj := 74) rfl rfl rfl ?_
                  refine L.move rfl rfl ?_
                  refine L.guardT (dj := 74) rfl rfl rfl ?_
                  refine L.eqI rfl rfl rfl ?_
                  refine L.guardT (dj := 74) rfl rfl rfl ?_
                  refine L.move rfl rfl ?_
                  refine L.part (t := 77) rfl (fun h25 => ?_) (fun h25 => ?_)
                  · try simp only [decide_eq_true_eq, decide_eq_false_iff_not, Bool.not_eq_true', Bool.not_eq_false', Bool.and_eq_true, Bool.or_eq_true] at h25
                    refine L.guardT (dj := 77) rfl rfl rfl ?_
                    refine L.move rfl rfl ?_
                    refine L.guardT (dj := 77) rfl rfl rfl ?_
                    refine L.eqI rfl rfl rfl ?_
                    refine L.guardT (dj := 74) rfl rfl rfl ?_
                    refine L.pickT rfl rfl rfl ?_
                    refine L.guardT (dj := 71) rfl rfl rfl ?_
                    refine L.pickF rfl rfl rfl ?_
                    refine L.guardT (dj := 68) rfl rfl rfl ?_
                    refine L.pickT rfl rfl rfl ?_
                    refine L.pickF rfl rfl rfl ?_
                    refine L.assign rfl rfl ?_
                    refine L.nil ?_
                    refine T.thenN ?_
                    refine T.ret ?_
                    exact T.ret1 rfl rfl ⟨congrArg Value.bool (by unfold TrI at htr; simp_all <;> omega), rfl, rfl⟩ qD qF
                  · try simp only [decide_eq_true_eq, decide_eq_false_iff_not, Bool.not_eq_true', Bool.not_eq_false', Bool.and_eq_true, Bool.or_eq_true] at h25
                    refine L.guardF (dj := 77) (c := false) rfl rfl rfl rfl rfl (by decide) ?_
                    refine L.guardF (dj := 77) (c := false) rfl rfl rfl rfl rfl (by decide) ?_
                    refine L.guardT (dj := 74) rfl rfl rfl ?_
                    refine L.pickF rfl rfl rfl ?_
                    refine L.guardT (dj := 71) rfl rfl rfl ?_
                    refine L.pickF rfl rfl rfl ?_
                    refine L.guardT (dj := 68) rfl rfl rfl ?_
                    refine L.pickT rfl rfl rfl ?_
                    refine L.pickF rfl rfl rfl ?_
                    refine L.assign rfl rfl ?_
                    refine L.nil ?_
                    refine T.thenN ?_
                    refine T.ret ?_
                    exact T.ret1 rfl rfl ⟨congrArg Value.bool (by unfold TrI at htr; simp_all <;> omega), rfl, rfl⟩ qD qF
              · try simp only [decide_eq_true_eq, decide_eq_false_iff_not, Bool.not_eq_true', Bool.not_eq_false', Bool.and_eq_true, Bool.or_eq_true] at h23
                refine L.guardF (dj := 71) (c := false) rfl rfl rfl rfl rfl (by decide) ?_
                refine L.guardF (dj := 71) (c := false) rfl rfl rfl rfl rfl (by decide) ?_
                refine L.guardF (dj := 71) (c := false) rfl rfl rfl rfl rfl (by decide) ?_
                refine L.guardU (dj := 74) rfl rfl rfl rfl rfl ?_
                refine L.guardU (dj := 74) rfl rfl rfl rfl rfl ?_
                refine L.guardU (dj := 74) rfl rfl rfl rfl rfl ?_
                refine L.guardU (dj := 77) rfl rfl rfl rfl rfl ?_
                refine L.guardU (dj := 77) rfl rfl rfl rfl rfl ?_
                refine L.guardU (dj := 74) rfl rfl rfl rfl rfl ?_
                refine L.guardF (dj := 71) (c := false) rfl rfl rfl rfl rfl (by decide) ?_
                refine L.guardT (dj := 68) rfl rfl rfl ?_
                refine L.pickF rfl rfl rfl ?_
                refine L.pickF rfl rfl rfl ?_
                refine L.assign rfl rfl ?_
                refine L.nil ?_
                refine T.thenN ?_
                refine T.ret ?_
                exact T.ret1 rfl rfl ⟨congrArg Value.bool (by unfold TrI at htr; simp_all <;> omega), rfl, rfl⟩ qD qF
          · try simp only [decide_eq_true_eq, decide_eq_false_iff_not, Bool.not_eq_true', Bool.not_eq_false', Bool.and_eq_true, Bool.or_eq_true] at h21
            refine L.guardF (dj := 63) (c := false) rfl rfl rfl rfl rfl (by decide) ?_
            refine L.guardF (dj := 63) (c := false) rfl rfl rfl rfl rfl (by decide) ?_
            refine L.pickF rfl rfl rfl ?_
            refine L.notB rfl rfl ?_
            refine L.move rfl rfl ?_
            refine L.guardF (dj := 68) (c := true) rfl rfl rfl rfl rfl (by decide) ?_
            refine L.guardF (dj := 68) (c := true) rfl rfl rfl rfl rfl (by decide) ?_
            refine L.guardF (dj := 68) (c := true) rfl rfl rfl rfl rfl (by decide) ?_
            refine L.guardU (dj := 71) rfl rfl rfl rfl rfl ?_
            refine L.guardU (dj := 71) rfl rfl rfl rfl rfl ?_
            refine L.guardU (dj := 71) rfl rfl rfl rfl rfl ?_
            refine L.guardU (dj := 74) rfl rfl rfl rfl rfl ?_
            refine L.guardU (dj := 74) rfl rfl rfl rfl rfl ?_
            refine L.guardU (dj := 74) rfl rfl rfl rfl rfl ?_
            refine L.guardU (dj := 77) rfl rfl rfl rfl rfl ?_
            refine L.guardU (dj := 77) rfl rfl rfl rfl rfl ?_
            refine L.guardU (dj := 74) rfl rfl rfl rfl rfl ?_
            refine L.guardU (dj := 71) rfl rfl rfl rfl rfl ?_
            refine L.guardF (dj := 68) (c := true) rfl rfl rfl rfl rfl (by decide) ?_
            refine L.pickT rfl rfl rfl ?_
            refine L.assign rfl rfl ?_
            refine L.nil ?_
            refine T.thenN ?_
            refine T.ret ?_
            exact T.ret1 rfl rfl ⟨congrArg Value.bool (by unfold TrI at htr; simp_all <;> omega), rfl, rfl⟩ qD qF
      · skip
        refine L.guardT (dj := 45) rfl rfl rfl ?_
        refine L.loadA rfl ag24 rfl qN ?_
        refine A.backT rfl qD ?_
        refine A.branch (is := [21]) (by kernel_rfl) (by decide) (Each.cons rfl ?_ <| Each.nil) 
        refine L.guardT (dj := 45) rfl rfl rfl ?_
        refine L.loadA rfl ag24 rfl qN ?_
        refine A.backT rfl qD ?_
        refine A.branch (is := [23]) (by kernel_rfl) (by decide) (Each.cons rfl ?_ <| Each.nil) 
        refine L.guardT (dj := 45) rfl rfl rfl ?_
        refine L.callF rfl (evs.cons rfl <| evs.cons rfl <| evs.nil) qD qS (same_spec (x := X) (z := Y) (by omega)) (by rintro u D1 M1 ⟨rfl, rfl, rfl⟩; exact ⟨rfl, _, qA, qF⟩) ?_
        refine A.backT rfl qD ?_
        refine A.takeP (i := 26) rfl rfl rfl rfl (by kernel_rfl) (by kernel_rfl) (by kernel_rfl) rfl qD ?_
        refine L.guardT (dj := 45) rfl rfl rfl ?_
        refine L.neqB Try.underlying4 rfl rfl rfl ?_
        refine A.took ?_
        refine A.branch (is := [27]) (by kernel_rfl) (by decide) (Each.cons rfl ?_ <| Each.nil) 
        refine L.pickF rfl rfl rfl ?_
        refine A.backT rfl qD ?_
        refine A.takeP (i := 28) rfl rfl rfl rfl (by kernel_rfl) (by kernel_rfl) (by kernel_rfl) rfl qD ?_
        refine L.move rfl rfl ?_
        refine A.took ?_
        refine A.known (t := 53) rfl (show _ = Value.bool false from congrArg Value.bool (by simp)) ?_
        refine A.takeP (i := 29) rfl rfl rfl rfl (by kernel_rfl) (by kernel_rfl) (by kernel_rfl) rfl qD ?_
        refine L.guardT (dj := 53) rfl rfl rfl ?_
        refine L.move rfl rfl ?_
        refine A.took ?_
        refine A.takeP (i := 30) rfl rfl rfl rfl (by kernel_rfl) (by kernel_rfl) (by kernel_rfl) rfl qD ?_
        refine L.guardT (dj := 53) rfl rfl rfl ?_
        refine L.ltI rfl rfl rfl ?_
        refine A.took ?_
        refine A.branch (is := [31]) (by kernel_rfl) (by decide) (Each.cons rfl ?_ <| Each.nil) 
        refine L.pickF rfl rfl rfl ?_
        refine A.backT rfl qD ?_
        refine A.takeP (i := 32) rfl rfl rfl rfl (by kernel_rfl) (by kernel_rfl) (by kernel_rfl) rfl qD ?_
        refine L.move rfl rfl ?_
        refine A.took ?_
        refine A.known (t := 57) rfl (show _ = Value.bool false from congrArg Value.bool (decide_eq_false (by omega))) ?_
        refine A.takeP (i := 33) rfl rfl rfl rfl (by kernel_rfl) (by kernel_rfl) (by kernel_rfl) rfl qD ?_
        refine L.guardT (dj := 57) rfl rfl rfl ?_
        refine L.move rfl rfl ?_
        refine A.took ?_
        refine A.takeP (i := 34) rfl rfl rfl rfl (by kernel_rfl) (by kernel_rfl) (by kernel_rfl) rfl qD ?_
        refine L.guardT (dj := 57) rfl rfl rfl ?_
        refine L.gtI rfl rfl rfl ?_
        refine A.took ?_
        refine A.branch (is := [35]) (by kernel_rfl) (by decide) (Each.cons rfl ?_ <| Each.nil) 
        refine L.pickF rfl rfl rfl ?_
        refine A.backT rfl qD ?_
        refine A.done (by kernel_rfl) ?_
        refine T.thenN ?_
        refine T.cond rfl (fun h60 => ?_) (fun h60 => ?_)
        · try simp only [decide_eq_true_eq, decide_eq_false_iff_not, Bool.not_eq_true', Bool.not_eq_false', Bool.and_eq_true, Bool.or_eq_true] at h60
          refine T.seq ?_
          refine T.region ?_
          refine L.assign rfl rfl ?_
          refine L.nil ?_
          refine T.thenN ?_
          refine T.ret ?_
          refine T.thenR ?_
          exact T.ret1 rfl rfl ⟨congrArg Value.bool (by unfold TrI at htr; simp_all <;> omega), rfl, rfl⟩ qD qF
        · try simp only [decide_eq_true_eq, decide_eq_false_iff_not, Bool.not_eq_true', Bool.not_eq_false', Bool.and_eq_true, Bool.or_eq_true] at h60
          refine T.skip ?_
          refine T.thenN ?_
          refine T.seq ?_
          refine T.region ?_
          refine L.move rfl rfl ?_
          refine L.leI rfl rfl rfl ?_
          refine L.move rfl rfl ?_
          refine L.part (t := 63) rfl (fun h26 => ?_) (fun h26 => ?_)
          · try simp only [decide_eq_true_eq, decide_eq_false_iff_not, Bool.not_eq_true', Bool.not_eq_false', Bool.and_eq_true, Bool.or_eq_true] at h26
            refine L.guardT (dj := 63) rfl rfl rfl ?_
            refine L.move rfl rfl ?_
            refine L.guardT (dj := 63) rfl rfl rfl ?_
            refine L.leI rfl rfl rfl ?_
            refine L.pickT rfl rfl rfl ?_
            refine L.notB rfl rfl ?_
            refine L.move rfl rfl ?_
            refine L.part (t := 68) rfl (fun h27 => ?_) (fun h27 => ?_)
            · try simp only [decide_eq_true_eq, decide_eq_false_iff_not, Bool.not_eq_true', Bool.not_eq_false', Bool.and_eq_true, Bool.or_eq_true] at h27
              refine L.guardF (dj := 68) (c := true) rfl rfl rfl rfl rfl (by decide) ?_
              refine L.guardF (dj := 68) (c := true) rfl rfl rfl rfl rfl (by decide) ?_
              refine L.guardF (dj := 68) (c := true) rfl rfl rfl rfl rfl (by decide) ?_
              refine L.guardU (dj := 71) rfl rfl rfl rfl rfl ?_
              refine L.guardU (dj := 71) rfl rfl rfl rfl rfl ?_
              refine L.guardU (dj := 71) rfl rfl rfl rfl rfl ?_
              refine L.guardU (dj := 74) rfl rfl rfl rfl rfl ?_
              refine L.guardU (dj := 74) rfl rfl rfl rfl rfl ?_
              refine L.guardU (dj := 74) rfl rfl rfl rfl rfl ?_
              refine L.guardU (dj := 77) rfl rfl rfl rfl rfl ?_
              refine L.guardU (dj := 77) rfl rfl rfl rfl rfl ?_
              refine L.guardU (dj := 74) rfl rfl rfl rfl rfl ?_
              refine L.guardU (dj := 71) rfl rfl rfl rfl rfl ?_
              refine L.guardF (dj := 68) (c := true) rfl rfl rfl rfl rfl (by decide) ?_
              refine L.pickT rfl rfl rfl ?_
              refine L.assign rfl rfl ?_
              refine L.nil ?_
              refine T.thenN ?_
              refine T.ret ?_
              exact T.ret1 rfl rfl ⟨congrArg Value.bool (by unfold TrI at htr; simp_all <;> omega), rfl, rfl⟩ qD qF
            · try simp only [decide_eq_true_eq, decide_eq_false_iff_not, Bool.not_eq_true', Bool.not_eq_false', Bool.and_eq_true, Bool.or_eq_true] at h27
              refine L.guardT (dj := 68) rfl rfl rfl ?_
              refine L.move rfl rfl ?_
              refine L.guardT (dj := 68) rfl rfl rfl ?_
              refine L.leI rfl rfl rfl ?_
              refine L.guardT (dj := 68) rfl rfl rfl ?_
              refine L.move rfl rfl ?_
              refine L.part (t := 71) rfl (fun h28 => ?_) (fun h28 => ?_)
              · try simp only [decide_eq_true_eq, decide_eq_false_iff_not, Bool.not_eq_true', Bool.not_eq_false', Bool.and_eq_true, Bool.or_eq_true] at h28
                refine L.guardT (dj := 71) rfl rfl rfl ?_
                refine L.move rfl rfl ?_
                refine L.guardT (dj := 71) rfl rfl rfl ?_
                refine L.ltI rfl rfl rfl ?_
                refine L.guardT (dj := 71) rfl rfl rfl ?_
                refine L.move rfl rfl ?_
                refine L.part (t := 74) rfl (fun h29 => ?_) (fun h29 => ?_)
                · try simp only [decide_eq_true_eq, decide_eq_false_iff_not, Bool.not_eq_true', Bool.not_eq_false', Bool.and_eq_true, Bool.or_eq_true] at h29
                  refine L.guardF (dj := 74) (c := true) rfl rfl rfl rfl rfl (by decide) ?_
                  refine L.guardF (dj := 74) (c := true) rfl rfl rfl rfl rfl (by decide) ?_
                  refine L.guardF (dj := 74) (c := true) rfl rfl rfl rfl rfl (by decide) ?_
                  refine L.guardU (dj := 77) rfl rfl rfl rfl rfl ?_
                  refine L.guardU (dj := 77) rfl rfl rfl rfl rfl ?_
                  refine L.guardF (dj := 74) (c := true) rfl rfl rfl rfl rfl (by decide) ?_
                  refine L.guardT (dj := 71) rfl rfl rfl ?_
                  refine L.pickT rfl rfl rfl ?_
                  refine L.guardT (dj := 68) rfl rfl rfl ?_
                  refine L.pickT rfl rfl rfl ?_
                  refine L.pickF rfl rfl rfl ?_
                  refine L.assign rfl rfl ?_
                  refine L.nil ?_
                  refine T.thenN ?_
                  refine T.ret ?_
                  exact T.ret1 rfl rfl ⟨congrArg Value.bool (by unfold TrI at htr; simp_all <;> omega), rfl, rfl⟩ qD qF
                · try simp only [decide_eq_true_eq, decide_eq_false_iff_not, Bool.not_eq_true', Bool.not_eq_false', Bool.and_eq_true, Bool.or_eq_true] at h29
                  refine L.guardT (dj := 74) rfl rfl rfl ?_
                  refine L.move rfl rfl ?_
                  refine L.guardT (dj := 74) rfl rfl rfl ?_
                  refine L.eqI rfl rfl rfl ?_
                  refine L.guardT (dj := 74) rfl rfl rfl ?_
                  refine L.move rfl rfl ?_
                  refine L.part (t := 77) rfl (fun h30 => ?_) (fun h30 => ?_)
                  · try simp only [decide_eq_true_eq, decide_eq_false_iff_not, Bool.not_eq_true', Bool.not_eq_false', Bool.and_eq_true, Bool.or_eq_true] at h30
                    refine L.guardT (dj := 77) rfl rfl rfl ?_
                    refine L.move rfl rfl ?_
                    refine L.guardT (dj := 77) rfl rfl rfl ?_
                    refine L.eqI rfl rfl rfl ?_
                    refine L.guardT (dj := 74) rfl rfl rfl ?_
                    refine L.pickT rfl rfl rfl ?_
                    refine L.guardT (dj := 71) rfl rfl rfl ?_
                    refine L.pickF rfl rfl rfl ?_
                    refine L.guardT (dj := 68) rfl rfl rfl ?_
                    refine L.pickT rfl rfl rfl ?_
                    refine L.pickF rfl rfl rfl ?_
                    refine L.assign rfl rfl ?_
                    refine L.nil ?_
                    refine T.thenN ?_
                    refine T.ret ?_
                    exact T.ret1 rfl rfl ⟨congrArg Value.bool (by unfold TrI at htr; simp_all <;> omega), rfl, rfl⟩ qD qF
                  · try simp only [decide_eq_true_eq, decide_eq_false_iff_not, Bool.not_eq_true', Bool.not_eq_false', Bool.and_eq_true, Bool.or_eq_true] at h30
                    refine L.guardF (dj := 77) (c := false) rfl rfl rfl rfl rfl (by decide) ?_
                    refine L.guardF (dj := 77) (c := false) rfl rfl rfl rfl rfl (by decide) ?_
                    refine L.guardT (dj := 74) rfl rfl rfl ?_
                    refine L.pickF rfl rfl rfl ?_
                    refine L.guardT (dj := 71) rfl rfl rfl ?_
                    refine L.pickF rfl rfl rfl ?_
                    refine L.guardT (dj := 68) rfl rfl rfl ?_
                    refine L.pickT rfl rfl rfl ?_
                    refine L.pickF rfl rfl rfl ?_
                    refine L.assign rfl rfl ?_
                    refine L.nil ?_
                    refine T.thenN ?_
                    refine T.ret ?_
                    exact T.ret1 rfl rfl ⟨congrArg Value.bool (by unfold TrI at htr; simp_all <;> omega), rfl, rfl⟩ qD qF
              · try simp only [decide_eq_true_eq, decide_eq_false_iff_not, Bool.not_eq_true', Bool.not_eq_false', Bool.and_eq_true, Bool.or_eq_true] at h28
                refine L.guardF (dj := 71) (c := false) rfl rfl rfl rfl rfl (by decide) ?_
                refine L.guardF (dj := 71) (c := false) rfl rfl rfl rfl rfl (by decide) ?_
                refine L.guardF (dj := 71) (c := false) rfl rfl rfl rfl rfl (by decide) ?_
                refine L.guardU (dj := 74) rfl rfl rfl rfl rfl ?_
                refine L.guardU (dj := 74) rfl rfl rfl rfl rfl ?_
                refine L.guardU (dj := 74) rfl rfl rfl rfl rfl ?_
                refine L.guardU (dj := 77) rfl rfl rfl rfl rfl ?_
                refine L.guardU (dj := 77) rfl rfl rfl rfl rfl ?_
                refine L.guardU (dj := 74) rfl rfl rfl rfl rfl ?_
                refine L.guardF (dj := 71) (c := false) rfl rfl rfl rfl rfl (by decide) ?_
                refine L.guardT (dj := 68) rfl rfl rfl ?_
                refine L.pickF rfl rfl rfl ?_
                refine L.pickF rfl rfl rfl ?_
                refine L.assign rfl rfl ?_
                refine L.nil ?_
                refine T.thenN ?_
                refine T.ret ?_
                exact T.ret1 rfl rfl ⟨congrArg Value.bool (by unfold TrI at htr; simp_all <;> omega), rfl, rfl⟩ qD qF
          · try simp only [decide_eq_true_eq, decide_eq_false_iff_not, Bool.not_eq_true', Bool.not_eq_false', Bool.and_eq_true, Bool.or_eq_true] at h26
            refine L.guardF (dj := 63) (c := false) rfl rfl rfl rfl rfl (by decide) ?_
            refine L.guardF (dj := 63) (c := false) rfl rfl rfl rfl rfl (by decide) ?_
            refine L.pickF rfl rfl rfl ?_
            refine L.notB rfl rfl ?_
            refine L.move rfl rfl ?_
            refine L.guardF (dj := 68) (c := true) rfl rfl rfl rfl rfl (by decide) ?_
            refine L.guardF (dj := 68) (c := true) rfl rfl rfl rfl rfl (by decide) ?_
            refine L.guardF (dj := 68) (c := true) rfl rfl rfl rfl rfl (by decide) ?_
            refine L.guardU (dj := 71) rfl rfl rfl rfl rfl ?_
            refine L.guardU (dj := 71) rfl rfl rfl rfl rfl ?_
            refine L.guardU (dj := 71) rfl rfl rfl rfl rfl ?_
            refine L.guardU (dj := 74) rfl rfl rfl rfl rfl ?_
            refine L.guardU (dj := 74) rfl rfl rfl rfl rfl ?_
            refine L.guardU (dj := 74) rfl rfl rfl rfl rfl ?_
            refine L.guardU (dj := 77) rfl rfl rfl rfl rfl ?_
            refine L.guardU (dj := 77) rfl rfl rfl rfl rfl ?_
            refine L.guardU (dj := 74) rfl rfl rfl rfl rfl ?_
            refine L.guardU (dj := 71) rfl rfl rfl rfl rfl ?_
            refine L.guardF (dj := 68) (c := true) rfl rfl rfl rfl rfl (by decide) ?_
            refine L.pickT rfl rfl rfl ?_
            refine L.assign rfl rfl ?_
            refine L.nil ?_
            refine T.thenN ?_
            refine T.ret ?_
            exact T.ret1 rfl rfl ⟨congrArg Value.bool (by unfold TrI at htr; simp_all <;> omega), rfl, rfl⟩ qD qF
  · skip
    refine L.guardT (dj := 27) rfl rfl rfl ?_
    refine L.loadA rfl ag24 rfl qN ?_
    refine A.backT rfl qD ?_
    refine A.branch (is := [3]) (by kernel_rfl) (by decide) (Each.cons rfl ?_ <| Each.nil) 
    refine L.guardT (dj := 27) rfl rfl rfl ?_
    refine L.loadA rfl ag24 rfl qN ?_
    refine A.backT rfl qD ?_
    refine A.branch (is := [5]) (by kernel_rfl) (by decide) (Each.cons rfl ?_ <| Each.nil) 
    refine L.guardT (dj := 27) rfl rfl rfl ?_
    refine L.callF rfl (evs.cons rfl <| evs.cons rfl <| evs.nil) qD qS (comp_spec Y fa2 fl2 fc2 X fa1 fl1 fc1 (by omega)) (by rintro u D1 M1 ⟨rfl, rfl, rfl⟩; exact ⟨rfl, _, qA, qF⟩) ?_
    refine A.backT rfl qD ?_
    refine A.takeP (i := 8) rfl rfl rfl rfl (by kernel_rfl) (by kernel_rfl) (by kernel_rfl) rfl qD ?_
    refine L.guardT (dj := 27) rfl rfl rfl ?_
    refine L.neI rfl rfl rfl ?_
    refine A.took ?_
    refine A.branch (is := [9]) (by kernel_rfl) (by decide) (Each.cons rfl ?_ <| Each.nil) 
    refine L.pickF rfl rfl rfl ?_
    refine A.backT rfl qD ?_
    refine A.takeP (i := 10) rfl rfl rfl rfl (by kernel_rfl) (by kernel_rfl) (by kernel_rfl) rfl qD ?_
    refine L.move rfl rfl ?_
    refine A.took ?_
    refine A.known (t := 35) rfl (show _ = Value.bool false from congrArg Value.bool (by rw [hng]; simp)) ?_
    refine A.takeP (i := 11) rfl rfl rfl rfl (by kernel_rfl) (by kernel_rfl) (by kernel_rfl) rfl qD ?_
    refine L.guardT (dj := 35) rfl rfl rfl ?_
    refine L.move rfl rfl ?_
    refine A.took ?_
    refine A.takeP (i := 12) rfl rfl rfl rfl (by kernel_rfl) (by kernel_rfl) (by kernel_rfl) rfl qD ?_
    refine L.guardT (dj := 35) rfl rfl rfl ?_
    refine L.eqI rfl rfl rfl ?_
    refine A.took ?_
    refine A.branch (is := [13, 15]) (by kernel_rfl) (by decide) (Each.cons rfl ?_ <| Each.cons rfl ?_ <| Each.nil) 
    · skip
      refine L.guardT (dj := 35) rfl rfl rfl ?_
      refine L.loadA rfl ag24 rfl qN ?_
      refine A.backT rfl qD ?_
      refine A.branch (is := [14, 15]) (by kernel_rfl) (by decide) (Each.cons rfl ?_ <| Each.cons rfl ?_ <| Each.nil) 
      · skip
        refine L.guardT (dj := 35) rfl rfl rfl ?_
        refine L.call rfl (evs.cons rfl <| evs.nil) qD qS (Told_spec (x := X) fa1 fl1 fc1 (by omega)) ?_
        rintro _ _ _ ⟨ta, tl, tc, rfl, htl, rfl, rfl⟩
        refine L.norm qA qA ?_
        refine L.ownRsl qP ?_
        refine A.backT rfl qD ?_
        refine A.branch (is := [15]) (by kernel_rfl) (by decide) (Each.cons rfl ?_ <| Each.nil) 
        refine L.guardT (dj := 35) rfl rfl rfl ?_
        refine L.loadA rfl ag24 rfl qN ?_
        refine A.backT rfl qD ?_
        refine A.branch (is := [16]) (by kernel_rfl) (by decide) (Each.cons rfl ?_ <| Each.nil) 
        refine L.guardT (dj := 35) rfl rfl rfl ?_
        refine L.call rfl (evs.cons rfl <| evs.nil) qD qS (Told_spec (x := Y) fa2 fl2 fc2 (by omega)) ?_
        rintro _ _ _ ⟨ta2, tl2, tc2, rfl, htl2, rfl, rfl⟩
        refine L.norm qA qA ?_
        refine L.ownRsl qP ?_
        refine A.backT rfl qD ?_
        refine A.branch (is := [17]) (by kernel_rfl) (by decide) (Each.cons rfl ?_ <| Each.nil) 
        refine L.guardT (dj := 35) rfl rfl rfl ?_
        refine L.callF rfl (evs.cons rfl <| evs.cons rfl <| evs.nil) qD qS (rsame_spec (l := toldT X [] 1 true true) (l2 := toldT Y [] 1 true true) (by omega)) (by rintro u D1 M1 ⟨rfl, rfl, rfl⟩; exact ⟨rfl, _, qA, qF⟩) ?_
        refine A.backT rfl qD ?_
        refine A.takeP (i := 18) rfl rfl rfl rfl (by kernel_rfl) (by kernel_rfl) (by kernel_rfl) rfl qD ?_
        refine L.guardT (dj := 35) rfl rfl rfl ?_
        refine L.neqB Try.underlying4 rfl rfl rfl ?_
        refine A.took ?_
        refine A.branch (is := [19]) (by kernel_rfl) (by decide) (Each.cons rfl ?_ <| Each.nil) 
        refine L.pickF rfl rfl rfl ?_
        refine A.backT rfl qD ?_
        refine A.takeP (i := 20) rfl rfl rfl rfl (by kernel_rfl) (by kernel_rfl) (by kernel_rfl) rfl qD ?_
        refine L.move rfl rfl ?_
        refine A.took ?_
        refine A.known (t := 45) rfl (show _ = Value.bool false from congrArg Value.bool (by simp [hts])) ?_
        refine A.takeP (i := 24) rfl rfl rfl rfl (by kernel_rfl) (by kernel_rfl) (by kernel_rfl) rfl qD ?_
        refine L.guardT (dj := 45) rfl rfl rfl ?_
        refine L.move rfl rfl ?_
        refine A.took ?_
        refine A.takeP (i := 25) rfl rfl rfl rfl (by kernel_rfl) (by kernel_rfl) (by kernel_rfl) rfl qD ?_
        refine L.guardT (dj := 45) rfl rfl rfl ?_
        refine L.eqI rfl rfl rfl ?_
        refine A.took ?_
        refine A.branch (is := [21, 22]) (by kernel_rfl) (by decide) (Each.cons rfl ?_ <| Each.cons rfl ?_ <| Each.nil) 
        · skip
          refine L.guardT (dj := 45) rfl rfl rfl ?_
          refine L.loadA rfl ag24 rfl qN ?_
          refine A.backT rfl qD ?_
          refine A.branch (is := [22]) (by kernel_rfl) (by decide) (Each.cons rfl ?_ <| Each.nil) 
          refine L.guardT (dj := 45) rfl rfl rfl ?_
          refine L.loadA rfl ag24 rfl qN ?_
          refine A.backT rfl qD ?_
          refine A.branch (is := [23]) (by kernel_rfl) (by decide) (Each.cons rfl ?_ <| Each.nil) 
          refine L.guardT (dj := 45) rfl rfl rfl ?_
          refine L.callF rfl (evs.cons rfl <| evs.cons rfl <| evs.nil) qD qS (same_spec (x := X) (z := Y) (by omega)) (by rintro u D1 M1 ⟨rfl, rfl, rfl⟩; exact ⟨rfl, _, qA, qF⟩) ?_
          refine A.backT rfl qD ?_
          refine A.takeP (i := 26) rfl rfl rfl rfl (by kernel_rfl) (by kernel_rfl) (by kernel_rfl) rfl qD ?_
          refine L.guardT (dj := 45) rfl rfl rfl ?_
          refine L.neqB Try.underlying4 rfl rfl rfl ?_
          refine A.took ?_
          refine A.branch (is := [27]) (by kernel_rfl) (by decide) (Each.cons rfl ?_ <| Each.nil) 
          refine L.pickF rfl rfl rfl ?_
          refine A.backT rfl qD ?_
          refine A.takeP (i := 28) rfl rfl rfl rfl (by kernel_rfl) (by kernel_rfl) (by kernel_rfl) rfl qD ?_
          refine L.move rfl rfl ?_
          refine A.took ?_
          refine A.known (t := 53) rfl (show _ = Value.bool false from congrArg Value.bool (by simp)) ?_
          refine A.takeP (i := 29) rfl rfl rfl rfl (by kernel_rfl) (by kernel_rfl) (by kernel_rfl) rfl qD ?_
          refine L.guardT (dj := 53) rfl rfl rfl ?_
          refine L.move rfl rfl ?_
          refine A.took ?_
          refine A.takeP (i := 30) rfl rfl rfl rfl (by kernel_rfl) (by kernel_rfl) (by kernel_rfl) rfl qD ?_
          refine L.guardT (dj := 53) rfl rfl rfl ?_
          refine L.ltI rfl rfl rfl ?_
          refine A.took ?_
          refine A.branch (is := [31]) (by kernel_rfl) (by decide) (Each.cons rfl ?_ <| Each.nil) 
          refine L.pickF rfl rfl rfl ?_
          refine A.backT rfl qD ?_
          refine A.takeP (i := 32) rfl rfl rfl rfl (by kernel_rfl) (by kernel_rfl) (by kernel_rfl) rfl qD ?_
          refine L.move rfl rfl ?_
          refine A.took ?_
          refine A.known (t := 57) rfl (show _ = Value.bool false from congrArg Value.bool (decide_eq_false (by omega))) ?_
          refine A.takeP (i := 33) rfl rfl rfl rfl (by kernel_rfl) (by kernel_rfl) (by kernel_rfl) rfl qD ?_
          refine L.guardT (dj := 57) rfl rfl rfl ?_
          refine L.move rfl rfl ?_
          refine A.took ?_
          refine A.takeP (i := 34) rfl rfl rfl rfl (by kernel_rfl) (by kernel_rfl) (by kernel_rfl) rfl qD ?_
          refine L.guardT (dj := 57) rfl rfl rfl ?_
          refine L.gtI rfl rfl rfl ?_
          refine A.took ?_
          refine A.branch (is := [35]) (by kernel_rfl) (by decide) (Each.cons rfl ?_ <| Each.nil) 
          refine L.pickF rfl rfl rfl ?_
          refine A.backT rfl qD ?_
          refine A.done (by kernel_rfl) ?_
          refine T.thenN ?_
          refine T.cond rfl (fun h60 => ?_) (fun h60 => ?_)
          · try simp only [decide_eq_true_eq, decide_eq_false_iff_not, Bool.not_eq_true', Bool.not_eq_false', Bool.and_eq_true, Bool.or_eq_true] at h60
            refine T.seq ?_
            refine T.region ?_
            refine L.assign rfl rfl ?_
            refine L.nil ?_
            refine T.thenN ?_
            refine T.ret ?_
            refine T.thenR ?_
            exact T.ret1 rfl rfl ⟨congrArg Value.bool (by unfold TrI at htr; simp_all <;> omega), rfl, rfl⟩ qD qF
          · try simp only [decide_eq_true_eq, decide_eq_false_iff_not, Bool.not_eq_true', Bool.not_eq_false', Bool.and_eq_true, Bool.or_eq_true] at h60
            refine T.skip ?_
            refine T.thenN ?_
            refine T.seq ?_
            refine T.region ?_
            refine L.move rfl rfl ?_
            refine L.leI rfl rfl rfl ?_
            refine L.move rfl rfl ?_
            refine L.part (t := 63) rfl (fun h31 => ?_) (fun h31 => ?_)
            · try simp only [decide_eq_true_eq, decide_eq_false_iff_not, Bool.not_eq_true', Bool.not_eq_false', Bool.and_eq_true, Bool.or_eq_true] at h31
              refine L.guardT (dj := 63) rfl rfl rfl ?_
              refine L.move rfl rfl ?_
              refine L.guardT (dj := 63) rfl rfl rfl ?_
              refine L.leI rfl rfl rfl ?_
              refine L.pickT rfl rfl rfl ?_
              refine L.notB rfl rfl ?_
              refine L.move rfl rfl ?_
              refine L.part (t := 68) rfl (fun h32 => ?_) (fun h32 => ?_)
              · try simp only [decide_eq_true_eq, decide_eq_false_iff_not, Bool.not_eq_true', Bool.not_eq_false', Bool.and_eq_true, Bool.or_eq_true] at h32
                refine L.guardF (dj := 68) (c := true) rfl rfl rfl rfl rfl (by decide) ?_
                refine L.guardF (dj := 68) (c := true) rfl rfl rfl rfl rfl (by decide) ?_
                refine L.guardF (dj := 68) (c := true) rfl rfl rfl rfl rfl (by decide) ?_
                refine L.guardU (dj := 71) rfl rfl rfl rfl rfl ?_
                refine L.guardU (dj := 71) rfl rfl rfl rfl rfl ?_
                refine L.guardU (dj := 71) rfl rfl rfl rfl rfl ?_
                refine L.guardU (dj := 74) rfl rfl rfl rfl rfl ?_
                refine L.guardU (dj := 74) rfl rfl rfl rfl rfl ?_
                refine L.guardU (dj := 74) rfl rfl rfl rfl rfl ?_
                refine L.guardU (dj := 77) rfl rfl rfl rfl rfl ?_
                refine L.guardU (dj := 77) rfl rfl rfl rfl rfl ?_
                refine L.guardU (dj := 74) rfl rfl rfl rfl rfl ?_
                refine L.guardU (dj := 71) rfl rfl rfl rfl rfl ?_
                refine L.guardF (dj := 68) (c := true) rfl rfl rfl rfl rfl (by decide) ?_
                refine L.pickT rfl rfl rfl ?_
                refine L.assign rfl rfl ?_
                refine L.nil ?_
                refine T.thenN ?_
                refine T.ret ?_
                exact T.ret1 rfl rfl ⟨congrArg Value.bool (by unfold TrI at htr; simp_all <;> omega), rfl, rfl⟩ qD qF
              · try simp only [decide_eq_true_eq, decide_eq_false_iff_not, Bool.not_eq_true', Bool.not_eq_false', Bool.and_eq_true, Bool.or_eq_true] at h32
                refine L.guardT (dj := 68) rfl rfl rfl ?_
                refine L.move rfl rfl ?_
                refine L.guardT (dj := 68) rfl rfl rfl ?_
                refine L.leI rfl rfl rfl ?_
                refine L.guardT (dj := 68) rfl rfl rfl ?_
                refine L.move rfl rfl ?_
                refine L.part (t := 71) rfl (fun h33 => ?_) (fun h33 => ?_)
                · try simp only [decide_eq_true_eq, decide_eq_false_iff_not, Bool.not_eq_true', Bool.not_eq_false', Bool.and_eq_true, Bool.or_eq_true] at h33
                  refine L.guardT (dj := 71) rfl rfl rfl ?_
                  refine L.move rfl rfl ?_
                  refine L.guardT (dj := 71) rfl rfl rfl ?_
                  refine L.ltI rfl rfl rfl ?_
                  refine L.guardT (dj := 71) rfl rfl rfl ?_
                  refine L.move rfl rfl ?_
                  refine L.part (t := 74) rfl (fun h34 => ?_) (fun h34 => ?_)
                  · try simp only [decide_eq_true_eq, decide_eq_false_iff_not, Bool.not_eq_true', Bool.not_eq_false', Bool.and_eq_true, Bool.or_eq_true] at h34
                    refine L.guardF (dj := 74) (c := true) rfl rfl rfl rfl rfl (by decide) ?_
                    refine L.guardF (dj := 74) (c := true) rfl rfl rfl rfl rfl (by decide) ?_
                    refine L.guardF (dj := 74) (c := true) rfl rfl rfl rfl rfl (by decide) ?_
                    refine L.guardU (dj := 77) rfl rfl rfl rfl rfl ?_
                    refine L.guardU (dj := 77) rfl rfl rfl rfl rfl ?_
                    refine L.guardF (dj := 74) (c := true) rfl rfl rfl rfl rfl (by decide) ?_
                    refine L.guardT (dj := 71) rfl rfl rfl ?_
                    refine L.pickT rfl rfl rfl ?_
                    refine L.guardT (dj := 68) rfl rfl rfl ?_
                    refine L.pickT rfl rfl rfl ?_
                    refine L.pickF rfl rfl rfl ?_
                    refine L.assign rfl rfl ?_
                    refine L.nil ?_
                    refine T.thenN ?_
                    refine T.ret ?_
                    exact T.ret1 rfl rfl ⟨congrArg Value.bool (by unfold TrI at htr; simp_all <;> omega), rfl, rfl⟩ qD qF
                  · try simp only [decide_eq_true_eq, decide_eq_false_iff_not, Bool.not_eq_true', Bool.not_eq_false', Bool.and_eq_true, Bool.or_eq_true] at h34
                    refine L.guardT (dj := 74) rfl rfl rfl ?_
                    refine L.move rfl rfl ?_
                    refine L.guardT (dj := 74) rfl rfl rfl ?_
                    refine L.eqI rfl rfl rfl ?_
                    refine L.guardT (dj := 74) rfl rfl rfl ?_
                    refine L.move rfl rfl ?_
                    refine L.part (t := 77) rfl (fun h35 => ?_) (fun h35 => ?_)
                    · try simp only [decide_eq_true_eq, decide_eq_false_iff_not, Bool.not_eq_true', Bool.not_eq_false', Bool.and_eq_true, Bool.or_eq_true] at h35
                      refine L.guardT (dj := 77) rfl rfl rfl ?_
                      refine L.move rfl rfl ?_
                      refine L.guardT (dj := 77) rfl rfl rfl ?_
                      refine L.eqI rfl rfl rfl ?_
                      refine L.guardT (dj := 74) rfl rfl rfl ?_
                      refine L.pickT rfl rfl rfl ?_
                      refine L.guardT (dj := 71) rfl rfl rfl ?_
                      refine L.pickF rfl rfl rfl ?_
                      refine L.guardT (dj := 68) rfl rfl rfl ?_
                      refine L.pickT rfl rfl rfl ?_
                      refine L.pickF rfl rfl rfl ?_
                      refine L.assign rfl rfl ?_
                      refine L.nil ?_
                      refine T.thenN ?_
                      refine T.ret ?_
                      exact T.ret1 rfl rfl ⟨congrArg Value.bool (by unfold TrI at htr; simp_all <;> omega), rfl, rfl⟩ qD qF
                    · try simp only [decide_eq_true_eq, decide_eq_false_iff_not, Bool.not_eq_true', Bool.not_eq_false', Bool.and_eq_true, Bool.or_eq_true] at h35
                      refine L.guardF (dj := 77) (c := false) rfl rfl rfl rfl rfl (by decide) ?_
                      refine L.guardF (dj := 77) (c := false) rfl rfl rfl rfl rfl (by decide) ?_
                      refine L.guardT (dj := 74) rfl rfl rfl ?_
                      refine L.pickF rfl rfl rfl ?_
                      refine L.guardT (dj := 71) rfl rfl rfl ?_
                      refine L.pickF rfl rfl rfl ?_
                      refine L.guardT (dj := 68) rfl rfl rfl ?_
                      refine L.pickT rfl rfl rfl ?_
                      refine L.pickF rfl rfl rfl ?_
                      refine L.assign rfl rfl ?_
                      refine L.nil ?_
                      refine T.thenN ?_
                      refine T.ret ?_
                      exact T.ret1 rfl rfl ⟨congrArg Value.bool (by unfold TrI at htr; simp_all <;> omega), rfl, rfl⟩ qD qF
                · try simp only [decide_eq_true_eq, decide_eq_false_iff_not, Bool.not_eq_true', Bool.not_eq_false', Bool.and_eq_true, Bool.or_eq_true] at h33
                  refine L.guardF (dj := 71) (c := false) rfl rfl rfl rfl rfl (by decide) ?_
                  refine L.guardF (dj := 71) (c := false) rfl rfl rfl rfl rfl (by decide) ?_
                  refine L.guardF (dj := 71) (c := false) rfl rfl rfl rfl rfl (by decide) ?_
                  refine L.guardU (dj := 74) rfl rfl rfl rfl rfl ?_
                  refine L.guardU (dj := 74) rfl rfl rfl rfl rfl ?_
                  refine L.guardU (dj := 74) rfl rfl rfl rfl rfl ?_
                  refine L.guardU (dj := 77) rfl rfl rfl rfl rfl ?_
                  refine L.guardU (dj := 77) rfl rfl rfl rfl rfl ?_
                  refine L.guardU (dj := 74) rfl rfl rfl rfl rfl ?_
                  refine L.guardF (dj := 71) (c := false) rfl rfl rfl rfl rfl (by decide) ?_
                  refine L.guardT (dj := 68) rfl rfl rfl ?_
                  refine L.pickF rfl rfl rfl ?_
                  refine L.pickF rfl rfl rfl ?_
                  refine L.assign rfl rfl ?_
                  refine L.nil ?_
                  refine T.thenN ?_
                  refine T.ret ?_
                  exact T.ret1 rfl rfl ⟨congrArg Value.bool (by unfold TrI at htr; simp_all <;> omega), rfl, rfl⟩ qD qF
            · try simp only [decide_eq_true_eq, decide_eq_false_iff_not, Bool.not_eq_true', Bool.not_eq_false', Bool.and_eq_true, Bool.or_eq_true] at h31
              refine L.guardF (dj := 63) (c := false) rfl rfl rfl rfl rfl (by decide) ?_
              refine L.guardF (dj := 63) (c := false) rfl rfl rfl rfl rfl (by decide) ?_
              refine L.pickF rfl rfl rfl ?_
              refine L.notB rfl rfl ?_
              refine L.move rfl rfl ?_
              refine L.guardF (dj := 68) (c := true) rfl rfl rfl rfl rfl (by decide) ?_
              refine L.guardF (dj := 68) (c := true) rfl rfl rfl rfl rfl (by decide) ?_
              refine L.guardF (dj := 68) (c := true) rfl rfl rfl rfl rfl (by decide) ?_
              refine L.guardU (dj := 71) rfl rfl rfl rfl rfl ?_
              refine L.guardU (dj := 71) rfl rfl rfl rfl rfl ?_
              refine L.guardU (dj := 71) rfl rfl rfl rfl rfl ?_
              refine L.guardU (dj := 74) rfl rfl rfl rfl rfl ?_
              refine L.guardU (dj := 74) rfl rfl rfl rfl rfl ?_
              refine L.guardU (dj := 74) rfl rfl rfl rfl rfl ?_
              refine L.guardU (dj := 77) rfl rfl rfl rfl rfl ?_
              refine L.guardU (dj := 77) rfl rfl rfl rfl rfl ?_
              refine L.guardU (dj := 74) rfl rfl rfl rfl rfl ?_
              refine L.guardU (dj := 71) rfl rfl rfl rfl rfl ?_
              refine L.guardF (dj := 68) (c := true) rfl rfl rfl rfl rfl (by decide) ?_
              refine L.pickT rfl rfl rfl ?_
              refine L.assign rfl rfl ?_
              refine L.nil ?_
              refine T.thenN ?_
              refine T.ret ?_
              exact T.ret1 rfl rfl ⟨congrArg Value.bool (by unfold TrI at htr; simp_all <;> omega), rfl, rfl⟩ qD qF
        · skip
          refine L.guardT (dj := 45) rfl rfl rfl ?_
          refine L.loadA rfl ag24 rfl qN ?_
          refine A.backT rfl qD ?_
          refine A.branch (is := [21]) (by kernel_rfl) (by decide) (Each.cons rfl ?_ <| Each.nil) 
          refine L.guardT (dj := 45) rfl rfl rfl ?_
          refine L.loadA rfl ag24 rfl qN ?_
          refine A.backT rfl qD ?_
          refine A.branch (is := [23]) (by kernel_rfl) (by decide) (Each.cons rfl ?_ <| Each.nil) 
          refine L.guardT (dj := 45) rfl rfl rfl ?_
          refine L.callF rfl (evs.cons rfl <| evs.cons rfl <| evs.nil) qD qS (same_spec (x := X) (z := Y) (by omega)) (by rintro u D1 M1 ⟨rfl, rfl, rfl⟩; exact ⟨rfl, _, qA, qF⟩) ?_
          refine A.backT rfl qD ?_
          refine A.takeP (i := 26) rfl rfl rfl rfl (by kernel_rfl) (by kernel_rfl) (by kernel_rfl) rfl qD ?_
          refine L.guardT (dj := 45) rfl rfl rfl ?_
          refine L.neqB Try.underlying4 rfl rfl rfl ?_
          refine A.took ?_
          refine A.branch (is := [27]) (by kernel_rfl) (by decide) (Each.cons rfl ?_ <| Each.nil) 
          refine L.pickF rfl rfl rfl ?_
          refine A.backT rfl qD ?_
          refine A.takeP (i := 28) rfl rfl rfl rfl (by kernel_rfl) (by kernel_rfl) (by kernel_rfl) rfl qD ?_
          refine L.move rfl rfl ?_
          refine A.took ?_
          refine A.known (t := 53) rfl (show _ = Value.bool false from congrArg Value.bool (by simp)) ?_
          refine A.takeP (i := 29) rfl rfl rfl rfl (by kernel_rfl) (by kernel_rfl) (by kernel_rfl) rfl qD ?_
          refine L.guardT (dj := 53) rfl rfl rfl ?_
          refine L.move rfl rfl ?_
          refine A.took ?_
          refine A.takeP (i := 30) rfl rfl rfl rfl (by kernel_rfl) (by kernel_rfl) (by kernel_rfl) rfl qD ?_
          refine L.guardT (dj := 53) rfl rfl rfl ?_
          refine L.ltI rfl rfl rfl ?_
          refine A.took ?_
          refine A.branch (is := [31]) (by kernel_rfl) (by decide) (Each.cons rfl ?_ <| Each.nil) 
          refine L.pickF rfl rfl rfl ?_
          refine A.backT rfl qD ?_
          refine A.takeP (i := 32) rfl rfl rfl rfl (by kernel_rfl) (by kernel_rfl) (by kernel_rfl) rfl qD ?_
          refine L.move rfl rfl ?_
          refine A.took ?_
          refine A.known (t := 57) rfl (show _ = Value.bool false from congrArg Value.bool (decide_eq_false (by omega))) ?_
          refine A.takeP (i := 33) rfl rfl rfl rfl (by kernel_rfl) (by kernel_rfl) (by kernel_rfl) rfl qD ?_
          refine L.guardT (dj := 57) rfl rfl rfl ?_
          refine L.move rfl rfl ?_
          refine A.took ?_
          refine A.takeP (i := 34) rfl rfl rfl rfl (by kernel_rfl) (by kernel_rfl) (by kernel_rfl) rfl qD ?_
          refine L.guardT (dj := 57) rfl rfl rfl ?_
          refine L.gtI rfl rfl rfl ?_
          refine A.took ?_
          refine A.branch (is := [35]) (by kernel_rfl) (by decide) (Each.cons rfl ?_ <| Each.nil) 
          refine L.pickF rfl rfl rfl ?_
          refine A.backT rfl qD ?_
          refine A.done (by kernel_rfl) ?_
          refine T.thenN ?_
          refine T.cond rfl (fun h60 => ?_) (fun h60 => ?_)
          · try simp only [decide_eq_true_eq, decide_eq_false_iff_not, Bool.not_eq_true', Bool.not_eq_false', Bool.and_eq_true, Bool.or_eq_true] at h60
            refine T.seq ?_
            refine T.region ?_
            refine L.assign rfl rfl ?_
            refine L.nil ?_
            refine T.thenN ?_
            refine T.ret ?_
            refine T.thenR ?_
            exact T.ret1 rfl rfl ⟨congrArg Value.bool (by unfold TrI at htr; simp_all <;> omega), rfl, rfl⟩ qD qF
          · try simp only [decide_eq_true_eq, decide_eq_false_iff_not, Bool.not_eq_true', Bool.not_eq_false', Bool.and_eq_true, Bool.or_eq_true] at h60
            refine T.skip ?_
            refine T.thenN ?_
            refine T.seq ?_
            refine T.region ?_
            refine L.move rfl rfl ?_
            refine L.leI rfl rfl rfl ?_
            refine L.move rfl rfl ?_
            refine L.part (t := 63) rfl (fun h36 => ?_) (fun h36 => ?_)
            · try simp only [decide_eq_true_eq, decide_eq_false_iff_not, Bool.not_eq_true', Bool.not_eq_false', Bool.and_eq_true, Bool.or_eq_true] at h36
              refine L.guardT (dj := 63) rfl rfl rfl ?_
              refine L.move rfl rfl ?_
              refine L.guardT (dj := 63) rfl rfl rfl ?_
              refine L.leI rfl rfl rfl ?_
              refine L.pickT rfl rfl rfl ?_
              refine L.notB rfl rfl ?_
              refine L.move rfl rfl ?_
              refine L.part (t := 68) rfl (fun h37 => ?_) (fun h37 => ?_)
              · try simp only [decide_eq_true_eq, decide_eq_false_iff_not, Bool.not_eq_true', Bool.not_eq_false', Bool.and_eq_true, Bool.or_eq_true] at h37
                refine L.guardF (dj := 68) (c := true) rfl rfl rfl rfl rfl (by decide) ?_
                refine L.guardF (dj := 68) (c := true) rfl rfl rfl rfl rfl (by decide) ?_
                refine L.guardF (dj := 68) (c := true) rfl rfl rfl rfl rfl (by decide) ?_
                refine L.guardU (dj := 71) rfl rfl rfl rfl rfl ?_
                refine L.guardU (dj := 71) rfl rfl rfl rfl rfl ?_
                refine L.guardU (dj := 71) rfl rfl rfl rfl rfl ?_
                refine L.guardU (dj := 74) rfl rfl rfl rfl rfl ?_
                refine L.guardU (dj := 74) rfl rfl rfl rfl rfl ?_
                refine L.guardU (dj := 74) rfl rfl rfl rfl rfl ?_
                refine L.guardU (dj := 77) rfl rfl rfl rfl rfl ?_
                refine L.guardU (dj := 77) rfl rfl rfl rfl rfl ?_
                refine L.guardU (dj := 74) rfl rfl rfl rfl rfl ?_
                refine L.guardU (dj := 71) rfl rfl rfl rfl rfl ?_
                refine L.guardF (dj := 68) (c := true) rfl rfl rfl rfl rfl (by decide) ?_
                refine L.pickT rfl rfl rfl ?_
                refine L.assign rfl rfl ?_
                refine L.nil ?_
                refine T.thenN ?_
                refine T.ret ?_
                exact T.ret1 rfl rfl ⟨congrArg Value.bool (by unfold TrI at htr; simp_all <;> omega), rfl, rfl⟩ qD qF
              · try simp only [decide_eq_true_eq, decide_eq_false_iff_not, Bool.not_eq_true', Bool.not_eq_false', Bool.and_eq_true, Bool.or_eq_true] at h37
                refine L.guardT (dj := 68) rfl rfl rfl ?_
                refine L.move rfl rfl ?_
                refine L.guardT (dj := 68) rfl rfl rfl ?_
                refine L.leI rfl rfl rfl ?_
                refine L.guardT (dj := 68) rfl rfl rfl ?_
                refine L.move rfl rfl ?_
                refine L.part (t := 71) rfl (fun h38 => ?_) (fun h38 => ?_)
                · try simp only [decide_eq_true_eq, decide_eq_false_iff_not, Bool.not_eq_true', Bool.not_eq_false', Bool.and_eq_true, Bool.or_eq_true] at h38
                  refine L.guardT (dj := 71) rfl rfl rfl ?_
                  refine L.move rfl rfl ?_
                  refine L.guardT (dj := 71) rfl rfl rfl ?_
                  refine L.ltI rfl rfl rfl ?_
                  refine L.guardT (dj := 71) rfl rfl rfl ?_
                  refine L.move rfl rfl ?_
                  refine L.part (t := 74) rfl (fun h39 => ?_) (fun h39 => ?_)
                  · try simp only [decide_eq_true_eq, decide_eq_false_iff_not, Bool.not_eq_true', Bool.not_eq_false', Bool.and_eq_true, Bool.or_eq_true] at h39
                    refine L.guardF (dj := 74) (c := true) rfl rfl rfl rfl rfl (by decide) ?_
                    refine L.guardF (dj := 74) (c := true) rfl rfl rfl rfl rfl (by decide) ?_
                    refine L.guardF (dj := 74) (c := true) rfl rfl rfl rfl rfl (by decide) ?_
                    refine L.guardU (dj := 77) rfl rfl rfl rfl rfl ?_
                    refine L.guardU (dj := 77) rfl rfl rfl rfl rfl ?_
                    refine L.guardF (dj := 74) (c := true) rfl rfl rfl rfl rfl (by decide) ?_
                    refine L.guardT (dj := 71) rfl rfl rfl ?_
                    refine L.pickT rfl rfl rfl ?_
                    refine L.guardT (dj := 68) rfl rfl rfl ?_
                    refine L.pickT rfl rfl rfl ?_
                    refine L.pickF rfl rfl rfl ?_
                    refine L.assign rfl rfl ?_
                    refine L.nil ?_
                    refine T.thenN ?_
                    refine T.ret ?_
                    exact T.ret1 rfl rfl ⟨congrArg Value.bool (by unfold TrI at htr; simp_all <;> omega), rfl, rfl⟩ qD qF
                  · try simp only [decide_eq_true_eq, decide_eq_false_iff_not, Bool.not_eq_true', Bool.not_eq_false', Bool.and_eq_true, Bool.or_eq_true] at h39
                    refine L.guardT (dj := 74) rfl rfl rfl ?_
                    refine L.move rfl rfl ?_
                    refine L.guardT (dj := 74) rfl rfl rfl ?_
                    refine L.eqI rfl rfl rfl ?_
                    refine L.guardT (dj := 74) rfl rfl rfl ?_
                    refine L.move rfl rfl ?_
                    refine L.part (t := 77) rfl (fun h40 => ?_) (fun h40 => ?_)
                    · try simp only [decide_eq_true_eq, decide_eq_false_iff_not, Bool.not_eq_true', Bool.not_eq_false', Bool.and_eq_true, Bool.or_eq_true] at h40
                      refine L.guardT (dj := 77) rfl rfl rfl ?_
                      refine L.move rfl rfl ?_
                      refine L.guardT (dj := 77) rfl rfl rfl ?_
                      refine L.eqI rfl rfl rfl ?_
                      refine L.guardT (dj := 74) rfl rfl rfl ?_
                      refine L.pickT rfl rfl rfl ?_
                      refine L.guardT (dj := 71) rfl rfl rfl ?_
                      refine L.pickF rfl rfl rfl ?_
                      refine L.guardT (dj := 68) rfl rfl rfl ?_
                      refine L.pickT rfl rfl rfl ?_
                      refine L.pickF rfl rfl rfl ?_
                      refine L.assign rfl rfl ?_
                      refine L.nil ?_
                      refine T.thenN ?_
                      refine T.ret ?_
                      exact T.ret1 rfl rfl ⟨congrArg Value.bool (by unfold TrI at htr; simp_all <;> omega), rfl, rfl⟩ qD qF
                    · try simp only [decide_eq_true_eq, decide_eq_false_iff_not, Bool.not_eq_true', Bool.not_eq_false', Bool.and_eq_true, Bool.or_eq_true] at h40
                      refine L.guardF (dj := 77) (c := false) rfl rfl rfl rfl rfl (by decide) ?_
                      refine L.guardF (dj := 77) (c := false) rfl rfl rfl rfl rfl (by decide) ?_
                      refine L.guardT (dj := 74) rfl rfl rfl ?_
                      refine L.pickF rfl rfl rfl ?_
                      refine L.guardT (dj := 71) rfl rfl rfl ?_
                      refine L.pickF rfl rfl rfl ?_
                      refine L.guardT (dj := 68) rfl rfl rfl ?_
                      refine L.pickT rfl rfl rfl ?_
                      refine L.pickF rfl rfl rfl ?_
                      refine L.assign rfl rfl ?_
                      refine L.nil ?_
                      refine T.thenN ?_
                      refine T.ret ?_
                      exact T.ret1 rfl rfl ⟨congrArg Value.bool (by unfold TrI at htr; simp_all <;> omega), rfl, rfl⟩ qD qF
                · try simp only [decide_eq_true_eq, decide_eq_false_iff_not, Bool.not_eq_true', Bool.not_eq_false', Bool.and_eq_true, Bool.or_eq_true] at h38
                  refine L.guardF (dj := 71) (c := false) rfl rfl rfl rfl rfl (by decide) ?_
                  refine L.guardF (dj := 71) (c := false) rfl rfl rfl rfl rfl (by decide) ?_
                  refine L.guardF (dj := 71) (c := false) rfl rfl rfl rfl rfl (by decide) ?_
                  refine L.guardU (dj := 74) rfl rfl rfl rfl rfl ?_
                  refine L.guardU (dj := 74) rfl rfl rfl rfl rfl ?_
                  refine L.guardU (dj := 74) rfl rfl rfl rfl rfl ?_
                  refine L.guardU (dj := 77) rfl rfl rfl rfl rfl ?_
                  refine L.guardU (dj := 77) rfl rfl rfl rfl rfl ?_
                  refine L.guardU (dj := 74) rfl rfl rfl rfl rfl ?_
                  refine L.guardF (dj := 71) (c := false) rfl rfl rfl rfl rfl (by decide) ?_
                  refine L.guardT (dj := 68) rfl rfl rfl ?_
                  refine L.pickF rfl rfl rfl ?_
                  refine L.pickF rfl rfl rfl ?_
                  refine L.assign rfl rfl ?_
                  refine L.nil ?_
                  refine T.thenN ?_
                  refine T.ret ?_
                  exact T.ret1 rfl rfl ⟨congrArg Value.bool (by unfold TrI at htr; simp_all <;> omega), rfl, rfl⟩ qD qF
            · try simp only [decide_eq_true_eq, decide_eq_false_iff_not, Bool.not_eq_true', Bool.not_eq_false', Bool.and_eq_true, Bool.or_eq_true] at h36
              refine L.guardF (dj := 63) (c := false) rfl rfl rfl rfl rfl (by decide) ?_
              refine L.guardF (dj := 63) (c := false) rfl rfl rfl rfl rfl (by decide) ?_
              refine L.pickF rfl rfl rfl ?_
              refine L.notB rfl rfl ?_
              refine L.move rfl rfl ?_
              refine L.guardF (dj := 68) (c := true) rfl rfl rfl rfl rfl (by decide) ?_
              refine L.guardF (dj := 68) (c := true) rfl rfl rfl rfl rfl (by decide) ?_
              refine L.guardF (dj := 68) (c := true) rfl rfl rfl rfl rfl (by decide) ?_
              refine L.guardU (dj := 71) rfl rfl rfl rfl rfl ?_
              refine L.guardU (dj := 71) rfl rfl rfl rfl rfl ?_
              refine L.guardU (dj := 71) rfl rfl rfl rfl rfl ?_
              refine L.guardU (dj := 74) rfl rfl rfl rfl rfl ?_
              refine L.guardU (dj := 74) rfl rfl rfl rfl rfl ?_
              refine L.guardU (dj := 74) rfl rfl rfl rfl rfl ?_
              refine L.guardU (dj := 77) rfl rfl rfl rfl rfl ?_
              refine L.guardU (dj := 77) rfl rfl rfl rfl rfl ?_
              refine L.guardU (dj := 74) rfl rfl rfl rfl rfl ?_
              refine L.guardU (dj := 71) rfl rfl rfl rfl rfl ?_
              refine L.guardF (dj := 68) (c := true) rfl rfl rfl rfl rfl (by decide) ?_
              refine L.pickT rfl rfl rfl ?_
              refine L.assign rfl rfl ?_
              refine L.nil ?_
              refine T.thenN ?_
              refine T.ret ?_
              exact T.ret1 rfl rfl ⟨congrArg Value.bool (by unfold TrI at htr; simp_all <;> omega), rfl, rfl⟩ qD qF
      · skip
        refine L.guardT (dj := 35) rfl rfl rfl ?_
        refine L.loadA rfl ag24 rfl qN ?_
        refine A.backT rfl qD ?_
        refine A.branch (is := [14]) (by kernel_rfl) (by decide) (Each.cons rfl ?_ <| Each.nil) 
        refine L.guardT (dj := 35) rfl rfl rfl ?_
        refine L.call rfl (evs.cons rfl <| evs.nil) qD qS (Told_spec (x := X) fa1 fl1 fc1 (by omega)) ?_
        rintro _ _ _ ⟨ta, tl, tc, rfl, htl, rfl, rfl⟩
        refine L.norm qA qA ?_
        refine L.ownRsl qP ?_
        refine A.backT rfl qD ?_
        refine A.branch (is := [16]) (by kernel_rfl) (by decide) (Each.cons rfl ?_ <| Each.nil) 
        refine L.guardT (dj := 35) rfl rfl rfl ?_
        refine L.call rfl (evs.cons rfl <| evs.nil) qD qS (Told_spec (x := Y) fa2 fl2 fc2 (by omega)) ?_
        rintro _ _ _ ⟨ta2, tl2, tc2, rfl, htl2, rfl, rfl⟩
        refine L.norm qA qA ?_
        refine L.ownRsl qP ?_
        refine A.backT rfl qD ?_
        refine A.branch (is := [17]) (by kernel_rfl) (by decide) (Each.cons rfl ?_ <| Each.nil) 
        refine L.guardT (dj := 35) rfl rfl rfl ?_
        refine L.callF rfl (evs.cons rfl <| evs.cons rfl <| evs.nil) qD qS (rsame_spec (l := toldT X [] 1 true true) (l2 := toldT Y [] 1 true true) (by omega)) (by rintro u D1 M1 ⟨rfl, rfl, rfl⟩; exact ⟨rfl, _, qA, qF⟩) ?_
        refine A.backT rfl qD ?_
        refine A.takeP (i := 18) rfl rfl rfl rfl (by kernel_rfl) (by kernel_rfl) (by kernel_rfl) rfl qD ?_
        refine L.guardT (dj := 35) rfl rfl rfl ?_
        refine L.neqB Try.underlying4 rfl rfl rfl ?_
        refine A.took ?_
        refine A.branch (is := [19]) (by kernel_rfl) (by decide) (Each.cons rfl ?_ <| Each.nil) 
        refine L.pickF rfl rfl rfl ?_
        refine A.backT rfl qD ?_
        refine A.takeP (i := 20) rfl rfl rfl rfl (by kernel_rfl) (by kernel_rfl) (by kernel_rfl) rfl qD ?_
        refine L.move rfl rfl ?_
        refine A.took ?_
        refine A.known (t := 45) rfl (show _ = Value.bool false from congrArg Value.bool (by simp [hts])) ?_
        refine A.takeP (i := 24) rfl rfl rfl rfl (by kernel_rfl) (by kernel_rfl) (by kernel_rfl) rfl qD ?_
        refine L.guardT (dj := 45) rfl rfl rfl ?_
        refine L.move rfl rfl ?_
        refine A.took ?_
        refine A.takeP (i := 25) rfl rfl rfl rfl (by kernel_rfl) (by kernel_rfl) (by kernel_rfl) rfl qD ?_
        refine L.guardT (dj := 45) rfl rfl rfl ?_
        refine L.eqI rfl rfl rfl ?_
        refine A.took ?_
        refine A.branch (is := [21, 22]) (by kernel_rfl) (by decide) (Each.cons rfl ?_ <| Each.cons rfl ?_ <| Each.nil) 
        · skip
          refine L.guardT (dj := 45) rfl rfl rfl ?_
          refine L.loadA rfl ag24 rfl qN ?_
          refine A.backT rfl qD ?_
          refine A.branch (is := [22]) (by kernel_rfl) (by decide) (Each.cons rfl ?_ <| Each.nil) 
          refine L.guardT (dj := 45) rfl rfl rfl ?_
          refine L.loadA rfl ag24 rfl qN ?_
          refine A.backT rfl qD ?_
          refine A.branch (is := [23]) (by kernel_rfl) (by decide) (Each.cons rfl ?_ <| Each.nil) 
          refine L.guardT (dj := 45) rfl rfl rfl ?_
          refine L.callF rfl (evs.cons rfl <| evs.cons rfl <| evs.nil) qD qS (same_spec (x := X) (z := Y) (by omega)) (by rintro u D1 M1 ⟨rfl, rfl, rfl⟩; exact ⟨rfl, _, qA, qF⟩) ?_
          refine A.backT rfl qD ?_
          refine A.takeP (i := 26) rfl rfl rfl rfl (by kernel_rfl) (by kernel_rfl) (by kernel_rfl) rfl qD ?_
          refine L.guardT (dj := 45) rfl rfl rfl ?_
          refine L.neqB Try.underlying4 rfl rfl rfl ?_
          refine A.took ?_
          refine A.branch (is := [27]) (by kernel_rfl) (by decide) (Each.cons rfl ?_ <| Each.nil) 
          refine L.pickF rfl rfl rfl ?_
          refine A.backT rfl qD ?_
          refine A.takeP (i := 28) rfl rfl rfl rfl (by kernel_rfl) (by kernel_rfl) (by kernel_rfl) rfl qD ?_
          refine L.move rfl rfl ?_
          refine A.took ?_
          refine A.known (t := 53) rfl (show _ = Value.bool false from congrArg Value.bool (by simp)) ?_
          refine A.takeP (i := 29) rfl rfl rfl rfl (by kernel_rfl) (by kernel_rfl) (by kernel_rfl) rfl qD ?_
          refine L.guardT (dj := 53) rfl rfl rfl ?_
          refine L.move rfl rfl ?_
          refine A.took ?_
          refine A.takeP (i := 30) rfl rfl rfl rfl (by kernel_rfl) (by kernel_rfl) (by kernel_rfl) rfl qD ?_
          refine L.guardT (dj := 53) rfl rfl rfl ?_
          refine L.ltI rfl rfl rfl ?_
          refine A.took ?_
          refine A.branch (is := [31]) (by kernel_rfl) (by decide) (Each.cons rfl ?_ <| Each.nil) 
          refine L.pickF rfl rfl rfl ?_
          refine A.backT rfl qD ?_
          refine A.takeP (i := 32) rfl rfl rfl rfl (by kernel_rfl) (by kernel_rfl) (by kernel_rfl) rfl qD ?_
          refine L.move rfl rfl ?_
          refine A.took ?_
          refine A.known (t := 57) rfl (show _ = Value.bool false from congrArg Value.bool (decide_eq_false (by omega))) ?_
          refine A.takeP (i := 33) rfl rfl rfl rfl (by kernel_rfl) (by kernel_rfl) (by kernel_rfl) rfl qD ?_
          refine L.guardT (dj := 57) rfl rfl rfl ?_
          refine L.move rfl rfl ?_
          refine A.took ?_
          refine A.takeP (i := 34) rfl rfl rfl rfl (by kernel_rfl) (by kernel_rfl) (by kernel_rfl) rfl qD ?_
          refine L.guardT (dj := 57) rfl rfl rfl ?_
          refine L.gtI rfl rfl rfl ?_
          refine A.took ?_
          refine A.branch (is := [35]) (by kernel_rfl) (by decide) (Each.cons rfl ?_ <| Each.nil) 
          refine L.pickF rfl rfl rfl ?_
          refine A.backT rfl qD ?_
          refine A.done (by kernel_rfl) ?_
          refine T.thenN ?_
          refine T.cond rfl (fun h60 => ?_) (fun h60 => ?_)
          · try simp only [decide_eq_true_eq, decide_eq_false_iff_not, Bool.not_eq_true', Bool.not_eq_false', Bool.and_eq_true, Bool.or_eq_true] at h60
            refine T.seq ?_
            refine T.region ?_
            refine L.assign rfl rfl ?_
            refine L.nil ?_
            refine T.thenN ?_
            refine T.ret ?_
            refine T.thenR ?_
            exact T.ret1 rfl rfl ⟨congrArg Value.bool (by unfold TrI at htr; simp_all <;> omega), rfl, rfl⟩ qD qF
          · try simp only [decide_eq_true_eq, decide_eq_false_iff_not, Bool.not_eq_true', Bool.not_eq_false', Bool.and_eq_true, Bool.or_eq_true] at h60
            refine T.skip ?_
            refine T.thenN ?_
            refine T.seq ?_
            refine T.region ?_
            refine L.move rfl rfl ?_
            refine L.leI rfl rfl rfl ?_
            refine L.move rfl rfl ?_
            refine L.part (t := 63) rfl (fun h41 => ?_) (fun h41 => ?_)
            · try simp only [decide_eq_true_eq, decide_eq_false_iff_not, Bool.not_eq_true', Bool.not_eq_false', Bool.and_eq_true, Bool.or_eq_true] at h41
              refine L.guardT (dj := 63) rfl rfl rfl ?_
              refine L.move rfl rfl ?_
              refine L.guardT (dj := 63) rfl rfl rfl ?_
              refine L.leI rfl rfl rfl ?_
              refine L.pickT rfl rfl rfl ?_
              refine L.notB rfl rfl ?_
              refine L.move rfl rfl ?_
              refine L.part (t := 68) rfl (fun h42 => ?_) (fun h42 => ?_)
              · try simp only [decide_eq_true_eq, decide_eq_false_iff_not, Bool.not_eq_true', Bool.not_eq_false', Bool.and_eq_true, Bool.or_eq_true] at h42
                refine L.guardF (dj := 68) (c := true) rfl rfl rfl rfl rfl (by decide) ?_
                refine L.guardF (dj := 68) (c := true) rfl rfl rfl rfl rfl (by decide) ?_
                refine L.guardF (dj := 68) (c := true) rfl rfl rfl rfl rfl (by decide) ?_
                refine L.guardU (dj := 71) rfl rfl rfl rfl rfl ?_
                refine L.guardU (dj := 71) rfl rfl rfl rfl rfl ?_
                refine L.guardU (dj := 71) rfl rfl rfl rfl rfl ?_
                refine L.guardU (dj := 74) rfl rfl rfl rfl rfl ?_
                refine L.guardU (dj := 74) rfl rfl rfl rfl rfl ?_
                refine L.guardU (dj := 74) rfl rfl rfl rfl rfl ?_
                refine L.guardU (dj := 77) rfl rfl rfl rfl rfl ?_
                refine L.guardU (dj := 77) rfl rfl rfl rfl rfl ?_
                refine L.guardU (dj := 74) rfl rfl rfl rfl rfl ?_
                refine L.guardU (dj := 71) rfl rfl rfl rfl rfl ?_
                refine L.guardF (dj := 68) (c := true) rfl rfl rfl rfl rfl (by decide) ?_
                refine L.pickT rfl rfl rfl ?_
                refine L.assign rfl rfl ?_
                refine L.nil ?_
                refine T.thenN ?_
                refine T.ret ?_
                exact T.ret1 rfl rfl ⟨congrArg Value.bool (by unfold TrI at htr; simp_all <;> omega), rfl, rfl⟩ qD qF
              · try simp only [decide_eq_true_eq, decide_eq_false_iff_not, Bool.not_eq_true', Bool.not_eq_false', Bool.and_eq_true, Bool.or_eq_true] at h42
                refine L.guardT (dj := 68) rfl rfl rfl ?_
                refine L.move rfl rfl ?_
                refine L.guardT (dj := 68) rfl rfl rfl ?_
                refine L.leI rfl rfl rfl ?_
                refine L.guardT (dj := 68) rfl rfl rfl ?_
                refine L.move rfl rfl ?_
                refine L.part (t := 71) rfl (fun h43 => ?_) (fun h43 => ?_)
                · try simp only [decide_eq_true_eq, decide_eq_false_iff_not, Bool.not_eq_true', Bool.not_eq_false', Bool.and_eq_true, Bool.or_eq_true] at h43
                  refine L.guardT (dj := 71) rfl rfl rfl ?_
                  refine L.move rfl rfl ?_
                  refine L.guardT (dj := 71) rfl rfl rfl ?_
                  refine L.ltI rfl rfl rfl ?_
                  refine L.guardT (dj := 71) rfl rfl rfl ?_
                  refine L.move rfl rfl ?_
                  refine L.part (t := 74) rfl (fun h44 => ?_) (fun h44 => ?_)
                  · try simp only [decide_eq_true_eq, decide_eq_false_iff_not, Bool.not_eq_true', Bool.not_eq_false', Bool.and_eq_true, Bool.or_eq_true] at h44
                    refine L.guardF (dj := 74) (c := true) rfl rfl rfl rfl rfl (by decide) ?_
                    refine L.guardF (dj := 74) (c := true) rfl rfl rfl rfl rfl (by decide) ?_
                    refine L.guardF (dj := 74) (c := true) rfl rfl rfl rfl rfl (by decide) ?_
                    refine L.guardU (dj := 77) rfl rfl rfl rfl rfl ?_
                    refine L.guardU (dj := 77) rfl rfl rfl rfl rfl ?_
                    refine L.guardF (dj := 74) (c := true) rfl rfl rfl rfl rfl (by decide) ?_
                    refine L.guardT (dj := 71) rfl rfl rfl ?_
                    refine L.pickT rfl rfl rfl ?_
                    refine L.guardT (dj := 68) rfl rfl rfl ?_
                    refine L.pickT rfl rfl rfl ?_
                    refine L.pickF rfl rfl rfl ?_
                    refine L.assign rfl rfl ?_
                    refine L.nil ?_
                    refine T.thenN ?_
                    refine T.ret ?_
                    exact T.ret1 rfl rfl ⟨congrArg Value.bool (by unfold TrI at htr; simp_all <;> omega), rfl, rfl⟩ qD qF
                  · try simp only [decide_eq_true_eq, decide_eq_false_iff_not, Bool.not_eq_true', Bool.not_eq_false', Bool.and_eq_true, Bool.or_eq_true] at h44
                    refine L.guardT (dj := 74) rfl rfl rfl ?_
                    refine L.move rfl rfl ?_
                    refine L.guardT (dj := 74) rfl rfl rfl ?_
                    refine L.eqI rfl rfl rfl ?_
                    refine L.guardT (dj := 74) rfl rfl rfl ?_
                    refine L.move rfl rfl ?_
                    refine L.part (t := 77) rfl (fun h45 => ?_) (fun h45 => ?_)
                    · try simp only [decide_eq_true_eq, decide_eq_false_iff_not, Bool.not_eq_true', Bool.not_eq_false', Bool.and_eq_true, Bool.or_eq_true] at h45
                      refine L.guardT (dj := 77) rfl rfl rfl ?_
                      refine L.move rfl rfl ?_
                      refine L.guardT (dj := 77) rfl rfl rfl ?_
                      refine L.eqI rfl rfl rfl ?_
                      refine L.guardT (dj := 74) rfl rfl rfl ?_
                      refine L.pickT rfl rfl rfl ?_
                      refine L.guardT (dj := 71) rfl rfl rfl ?_
                      refine L.pickF rfl rfl rfl ?_
                      refine L.guardT (dj := 68) rfl rfl rfl ?_
                      refine L.pickT rfl rfl rfl ?_
                      refine L.pickF rfl rfl rfl ?_
                      refine L.assign rfl rfl ?_
                      refine L.nil ?_
                      refine T.thenN ?_
                      refine T.ret ?_
                      exact T.ret1 rfl rfl ⟨congrArg Value.bool (by unfold TrI at htr; simp_all <;> omega), rfl, rfl⟩ qD qF
                    · try simp only [decide_eq_true_eq, decide_eq_false_iff_not, Bool.not_eq_true', Bool.not_eq_false', Bool.and_eq_true, Bool.or_eq_true] at h45
                      refine L.guardF (dj := 77) (c := false) rfl rfl rfl rfl rfl (by decide) ?_
                      refine L.guardF (dj := 77) (c := false) rfl rfl rfl rfl rfl (by decide) ?_
                      refine L.guardT (dj := 74) rfl rfl rfl ?_
                      refine L.pickF rfl rfl rfl ?_
                      refine L.guardT (dj := 71) rfl rfl rfl ?_
                      refine L.pickF rfl rfl rfl ?_
                      refine L.guardT (dj := 68) rfl rfl rfl ?_
                      refine L.pickT rfl rfl rfl ?_
                      refine L.pickF rfl rfl rfl ?_
                      refine L.assign rfl rfl ?_
                      refine L.nil ?_
                      refine T.thenN ?_
                      refine T.ret ?_
                      exact T.ret1 rfl rfl ⟨congrArg Value.bool (by unfold TrI at htr; simp_all <;> omega), rfl, rfl⟩ qD qF
                · try simp only [decide_eq_true_eq, decide_eq_false_iff_not, Bool.not_eq_true', Bool.not_eq_false', Bool.and_eq_true, Bool.or_eq_true] at h43
                  refine L.guardF (dj := 71) (c := false) rfl rfl rfl rfl rfl (by decide) ?_
                  refine L.guardF (dj := 71) (c := false) rfl rfl rfl rfl rfl (by decide) ?_
                  refine L.guardF (dj := 71) (c := false) rfl rfl rfl rfl rfl (by decide) ?_
                  refine L.guardU (dj := 74) rfl rfl rfl rfl rfl ?_
                  refine L.guardU (dj := 74) rfl rfl rfl rfl rfl ?_
                  refine L.guardU (dj := 74) rfl rfl rfl rfl rfl ?_
                  refine L.guardU (dj := 77) rfl rfl rfl rfl rfl ?_
                  refine L.guardU (dj := 77) rfl rfl rfl rfl rfl ?_
                  refine L.guardU (dj := 74) rfl rfl rfl rfl rfl ?_
                  refine L.guardF (dj := 71) (c := false) rfl rfl rfl rfl rfl (by decide) ?_
                  refine L.guardT (dj := 68) rfl rfl rfl ?_
                  refine L.pickF rfl rfl rfl ?_
                  refine L.pickF rfl rfl rfl ?_
                  refine L.assign rfl rfl ?_
                  refine L.nil ?_
                  refine T.thenN ?_
                  refine T.ret ?_
                  exact T.ret1 rfl rfl ⟨congrArg Value.bool (by unfold TrI at htr; simp_all <;> omega), rfl, rfl⟩ qD qF
            · try simp only [decide_eq_true_eq, decide_eq_false_iff_not, Bool.not_eq_true', Bool.not_eq_false', Bool.and_eq_true, Bool.or_eq_true] at h41
              refine L.guardF (dj := 63) (c := false) rfl rfl rfl rfl rfl (by decide) ?_
              refine L.guardF (dj := 63) (c := false) rfl rfl rfl rfl rfl (by decide) ?_
              refine L.pickF rfl rfl rfl ?_
              refine L.notB rfl rfl ?_
              refine L.move rfl rfl ?_
              refine L.guardF (dj := 68) (c := true) rfl rfl rfl rfl rfl (by decide) ?_
              refine L.guardF (dj := 68) (c := true) rfl rfl rfl rfl rfl (by decide) ?_
              refine L.guardF (dj := 68) (c := true) rfl rfl rfl rfl rfl (by decide) ?_
              refine L.guardU (dj := 71) rfl rfl rfl rfl rfl ?_
              refine L.guardU (dj := 71) rfl rfl rfl rfl rfl ?_
              refine L.guardU (dj := 71) rfl rfl rfl rfl rfl ?_
              refine L.guardU (dj := 74) rfl rfl rfl rfl rfl ?_
              refine L.guardU (dj := 74) rfl rfl rfl rfl rfl ?_
              refine L.guardU (dj := 74) rfl rfl rfl rfl rfl ?_
              refine L.guardU (dj := 77) rfl rfl rfl rfl rfl ?_
              refine L.guardU (dj := 77) rfl rfl rfl rfl rfl ?_
              refine L.guardU (dj := 74) rfl rfl rfl rfl rfl ?_
              refine L.guardU (dj := 71) rfl rfl rfl rfl rfl ?_
              refine L.guardF (dj := 68) (c := true) rfl rfl rfl rfl rfl (by decide) ?_
              refine L.pickT rfl rfl rfl ?_
              refine L.assign rfl rfl ?_
              refine L.nil ?_
              refine T.thenN ?_
              refine T.ret ?_
              exact T.ret1 rfl rfl ⟨congrArg Value.bool (by unfold TrI at htr; simp_all <;> omega), rfl, rfl⟩ qD qF
        · skip
          refine L.guardT (dj := 45) rfl rfl rfl ?_
          refine L.loadA rfl ag24 rfl qN ?_
          refine A.backT rfl qD ?_
          refine A.branch (is := [21]) (by kernel_rfl) (by decide) (Each.cons rfl ?_ <| Each.nil) 
          refine L.guardT (dj := 45) rfl rfl rfl ?_
          refine L.loadA rfl ag24 rfl qN ?_
          refine A.backT rfl qD ?_
          refine A.branch (is := [23]) (by kernel_rfl) (by decide) (Each.cons rfl ?_ <| Each.nil) 
          refine L.guardT (dj := 45) rfl rfl rfl ?_
          refine L.callF rfl (evs.cons rfl <| evs.cons rfl <| evs.nil) qD qS (same_spec (x := X) (z := Y) (by omega)) (by rintro u D1 M1 ⟨rfl, rfl, rfl⟩; exact ⟨rfl, _, qA, qF⟩) ?_
          refine A.backT rfl qD ?_
          refine A.takeP (i := 26) rfl rfl rfl rfl (by kernel_rfl) (by kernel_rfl) (by kernel_rfl) rfl qD ?_
          refine L.guardT (dj := 45) rfl rfl rfl ?_
          refine L.neqB Try.underlying4 rfl rfl rfl ?_
          refine A.took ?_
          refine A.branch (is := [27]) (by kernel_rfl) (by decide) (Each.cons rfl ?_ <| Each.nil) 
          refine L.pickF rfl rfl rfl ?_
          refine A.backT rfl qD ?_
          refine A.takeP (i := 28) rfl rfl rfl rfl (by kernel_rfl) (by kernel_rfl) (by kernel_rfl) rfl qD ?_
          refine L.move rfl rfl ?_
          refine A.took ?_
          refine A.known (t := 53) rfl (show _ = Value.bool false from congrArg Value.bool (by simp)) ?_
          refine A.takeP (i := 29) rfl rfl rfl rfl (by kernel_rfl) (by kernel_rfl) (by kernel_rfl) rfl qD ?_
          refine L.guardT (dj := 53) rfl rfl rfl ?_
          refine L.move rfl rfl ?_
          refine A.took ?_
          refine A.takeP (i := 30) rfl rfl rfl rfl (by kernel_rfl) (by kernel_rfl) (by kernel_rfl) rfl qD ?_
          refine L.guardT (dj := 53) rfl rfl rfl ?_
          refine L.ltI rfl rfl rfl ?_
          refine A.took ?_
          refine A.branch (is := [31]) (by kernel_rfl) (by decide) (Each.cons rfl ?_ <| Each.nil) 
          refine L.pickF rfl rfl rfl ?_
          refine A.backT rfl qD ?_
          refine A.takeP (i := 32) rfl rfl rfl rfl (by kernel_rfl) (by kernel_rfl) (by kernel_rfl) rfl qD ?_
          refine L.move rfl rfl ?_
          refine A.took ?_
          refine A.known (t := 57) rfl (show _ = Value.bool false from congrArg Value.bool (decide_eq_false (by omega))) ?_
          refine A.takeP (i := 33) rfl rfl rfl rfl (by kernel_rfl) (by kernel_rfl) (by kernel_rfl) rfl qD ?_
          refine L.guardT (dj := 57) rfl rfl rfl ?_
          refine L.move rfl rfl ?_
          refine A.took ?_
          refine A.takeP (i := 34) rfl rfl rfl rfl (by kernel_rfl) (by kernel_rfl) (by kernel_rfl) rfl qD ?_
          refine L.guardT (dj := 57) rfl rfl rfl ?_
          refine L.gtI rfl rfl rfl ?_
          refine A.took ?_
          refine A.branch (is := [35]) (by kernel_rfl) (by decide) (Each.cons rfl ?_ <| Each.nil) 
          refine L.pickF rfl rfl rfl ?_
          refine A.backT rfl qD ?_
          refine A.done (by kernel_rfl) ?_
          refine T.thenN ?_
          refine T.cond rfl (fun h60 => ?_) (fun h60 => ?_)
          · try simp only [decide_eq_true_eq, decide_eq_false_iff_not, Bool.not_eq_true', Bool.not_eq_false', Bool.and_eq_true, Bool.or_eq_true] at h60
            refine T.seq ?_
            refine T.region ?_
            refine L.assign rfl rfl ?_
            refine L.nil ?_
            refine T.thenN ?_
            refine T.ret ?_
            refine T.thenR ?_
            exact T.ret1 rfl rfl ⟨congrArg Value.bool (by unfold TrI at htr; simp_all <;> omega), rfl, rfl⟩ qD qF
          · try simp only [decide_eq_true_eq, decide_eq_false_iff_not, Bool.not_eq_true', Bool.not_eq_false', Bool.and_eq_true, Bool.or_eq_true] at h60
            refine T.skip ?_
            refine T.thenN ?_
            refine T.seq ?_
            refine T.region ?_
            refine L.move rfl rfl ?_
            refine L.leI rfl rfl rfl ?_
            refine L.move rfl rfl ?_
            refine L.part (t := 63) rfl (fun h46 => ?_) (fun h46 => ?_)
            · try simp only [decide_eq_true_eq, decide_eq_false_iff_not, Bool.not_eq_true', Bool.not_eq_false', Bool.and_eq_true, Bool.or_eq_true] at h46
              refine L.guardT (dj := 63) rfl rfl rfl ?_
              refine L.move rfl rfl ?_
              refine L.guardT (dj := 63) rfl rfl rfl ?_
              refine L.leI rfl rfl rfl ?_
              refine L.pickT rfl rfl rfl ?_
              refine L.notB rfl rfl ?_
              refine L.move rfl rfl ?_
              refine L.part (t := 68) rfl (fun h47 => ?_) (fun h47 => ?_)
              · try simp only [decide_eq_true_eq, decide_eq_false_iff_not, Bool.not_eq_true', Bool.not_eq_false', Bool.and_eq_true, Bool.or_eq_true] at h47
                refine L.guardF (dj := 68) (c := true) rfl rfl rfl rfl rfl (by decide) ?_
                refine L.guardF (dj := 68) (c := true) rfl rfl rfl rfl rfl (by decide) ?_
                refine L.guardF (dj := 68) (c := true) rfl rfl rfl rfl rfl (by decide) ?_
                refine L.guardU (dj := 71) rfl rfl rfl rfl rfl ?_
                refine L.guardU (dj := 71) rfl rfl rfl rfl rfl ?_
                refine L.guardU (dj := 71) rfl rfl rfl rfl rfl ?_
                refine L.guardU (dj := 74) rfl rfl rfl rfl rfl ?_
                refine L.guardU (dj := 74) rfl rfl rfl rfl rfl ?_
                refine L.guardU (dj := 74) rfl rfl rfl rfl rfl ?_
                refine L.guardU (dj := 77) rfl rfl rfl rfl rfl ?_
                refine L.guardU (dj := 77) rfl rfl rfl rfl rfl ?_
                refine L.guardU (dj := 74) rfl rfl rfl rfl rfl ?_
                refine L.guardU (dj := 71) rfl rfl rfl rfl rfl ?_
                refine L.guardF (dj := 68) (c := true) rfl rfl rfl rfl rfl (by decide) ?_
                refine L.pickT rfl rfl rfl ?_
                refine L.assign rfl rfl ?_
                refine L.nil ?_
                refine T.thenN ?_
                refine T.ret ?_
                exact T.ret1 rfl rfl ⟨congrArg Value.bool (by unfold TrI at htr; simp_all <;> omega), rfl, rfl⟩ qD qF
              · try simp only [decide_eq_true_eq, decide_eq_false_iff_not, Bool.not_eq_true', Bool.not_eq_false', Bool.and_eq_true, Bool.or_eq_true] at h47
                refine L.guardT (dj := 68) rfl rfl rfl ?_
                refine L.move rfl rfl ?_
                refine L.guardT (dj := 68) rfl rfl rfl ?_
                refine L.leI rfl rfl rfl ?_
                refine L.guardT (dj := 68) rfl rfl rfl ?_
                refine L.move rfl rfl ?_
                refine L.part (t := 71) rfl (fun h48 => ?_) (fun h48 => ?_)
                · try simp only [decide_eq_true_eq, decide_eq_false_iff_not, Bool.not_eq_true', Bool.not_eq_false', Bool.and_eq_true, Bool.or_eq_true] at h48
                  refine L.guardT (dj := 71) rfl rfl rfl ?_
                  refine L.move rfl rfl ?_
                  refine L.guardT (dj := 71) rfl rfl rfl ?_
                  refine L.ltI rfl rfl rfl ?_
                  refine L.guardT (dj := 71) rfl rfl rfl ?_
                  refine L.move rfl rfl ?_
                  refine L.part (t := 74) rfl (fun h49 => ?_) (fun h49 => ?_)
                  · try simp only [decide_eq_true_eq, decide_eq_false_iff_not, Bool.not_eq_true', Bool.not_eq_false', Bool.and_eq_true, Bool.or_eq_true] at h49
                    refine L.guardF (dj := 74) (c := true) rfl rfl rfl rfl rfl (by decide) ?_
                    refine L.guardF (dj := 74) (c := true) rfl rfl rfl rfl rfl (by decide) ?_
                    refine L.guardF (dj := 74) (c := true) rfl rfl rfl rfl rfl (by decide) ?_
                    refine L.guardU (dj := 77) rfl rfl rfl rfl rfl ?_
                    refine L.guardU (dj := 77) rfl rfl rfl rfl rfl ?_
                    refine L.guardF (dj := 74) (c := true) rfl rfl rfl rfl rfl (by decide) ?_
                    refine L.guardT (dj := 71) rfl rfl rfl ?_
                    refine L.pickT rfl rfl rfl ?_
                    refine L.guardT (dj := 68) rfl rfl rfl ?_
                    refine L.pickT rfl rfl rfl ?_
                    refine L.pickF rfl rfl rfl ?_
                    refine L.assign rfl rfl ?_
                    refine L.nil ?_
                    refine T.thenN ?_
                    refine T.ret ?_
                    exact T.ret1 rfl rfl ⟨congrArg Value.bool (by unfold TrI at htr; simp_all <;> omega), rfl, rfl⟩ qD qF
                  · try simp only [decide_eq_true_eq, decide_eq_false_iff_not, Bool.not_eq_true', Bool.not_eq_false', Bool.and_eq_true, Bool.or_eq_true] at h49
                    refine L.guardT (dj := 74) rfl rfl rfl ?_
                    refine L.move rfl rfl ?_
                    refine L.guardT (dj := 74) rfl rfl rfl ?_
                    refine L.eqI rfl rfl rfl ?_
                    refine L.guardT (dj := 74) rfl rfl rfl ?_
                    refine L.move rfl rfl ?_
                    refine L.part (t := 77) rfl (fun h50 => ?_) (fun h50 => ?_)
                    · try simp only [decide_eq_true_eq, decide_eq_false_iff_not, Bool.not_eq_true', Bool.not_eq_false', Bool.and_eq_true, Bool.or_eq_true] at h50
                      refine L.guardT (dj := 77) rfl rfl rfl ?_
                      refine L.move rfl rfl ?_
                      refine L.guardT (dj := 77) rfl rfl rfl ?_
                      refine L.eqI rfl rfl rfl ?_
                      refine L.guardT (dj := 74) rfl rfl rfl ?_
                      refine L.pickT rfl rfl rfl ?_
                      refine L.guardT (dj := 71) rfl rfl rfl ?_
                      refine L.pickF rfl rfl rfl ?_
                      refine L.guardT (dj := 68) rfl rfl rfl ?_
                      refine L.pickT rfl rfl rfl ?_
                      refine L.pickF rfl rfl rfl ?_
                      refine L.assign rfl rfl ?_
                      refine L.nil ?_
                      refine T.thenN ?_
                      refine T.ret ?_
                      exact T.ret1 rfl rfl ⟨congrArg Value.bool (by unfold TrI at htr; simp_all <;> omega), rfl, rfl⟩ qD qF
                    · try simp only [decide_eq_true_eq, decide_eq_false_iff_not, Bool.not_eq_true', Bool.not_eq_false', Bool.and_eq_true, Bool.or_eq_true] at h50
                      refine L.guardF (dj := 77) (c := false) rfl rfl rfl rfl rfl (by decide) ?_
                      refine L.guardF (dj := 77) (c := false) rfl rfl rfl rfl rfl (by decide) ?_
                      refine L.guardT (dj := 74) rfl rfl rfl ?_
                      refine L.pickF rfl rfl rfl ?_
                      refine L.guardT (dj := 71) rfl rfl rfl ?_
                      refine L.pickF rfl rfl rfl ?_
                      refine L.guardT (dj := 68) rfl rfl rfl ?_
                      refine L.pickT rfl rfl rfl ?_
                      refine L.pickF rfl rfl rfl ?_
                      refine L.assign rfl rfl ?_
                      refine L.nil ?_
                      refine T.thenN ?_
                      refine T.ret ?_
                      exact T.ret1 rfl rfl ⟨congrArg Value.bool (by unfold TrI at htr; simp_all <;> omega), rfl, rfl⟩ qD qF
                · try simp only [decide_eq_true_eq, decide_eq_false_iff_not, Bool.not_eq_true', Bool.not_eq_false', Bool.and_eq_true, Bool.or_eq_true] at h48
                  refine L.guardF (dj := 71) (c := false) rfl rfl rfl rfl rfl (by decide) ?_
                  refine L.guardF (dj := 71) (c := false) rfl rfl rfl rfl rfl (by decide) ?_
                  refine L.guardF (dj := 71) (c := false) rfl rfl rfl rfl rfl (by decide) ?_
                  refine L.guardU (dj := 74) rfl rfl rfl rfl rfl ?_
                  refine L.guardU (dj := 74) rfl rfl rfl rfl rfl ?_
                  refine L.guardU (dj := 74) rfl rfl rfl rfl rfl ?_
                  refine L.guardU (dj := 77) rfl rfl rfl rfl rfl ?_
                  refine L.guardU (dj := 77) rfl rfl rfl rfl rfl ?_
                  refine L.guardU (dj := 74) rfl rfl rfl rfl rfl ?_
                  refine L.guardF (dj := 71) (c := false) rfl rfl rfl rfl rfl (by decide) ?_
                  refine L.guardT (dj := 68) rfl rfl rfl ?_
                  refine L.pickF rfl rfl rfl ?_
                  refine L.pickF rfl rfl rfl ?_
                  refine L.assign rfl rfl ?_
                  refine L.nil ?_
                  refine T.thenN ?_
                  refine T.ret ?_
                  exact T.ret1 rfl rfl ⟨congrArg Value.bool (by unfold TrI at htr; simp_all <;> omega), rfl, rfl⟩ qD qF
            · try simp only [decide_eq_true_eq, decide_eq_false_iff_not, Bool.not_eq_true', Bool.not_eq_false', Bool.and_eq_true, Bool.or_eq_true] at h46
              refine L.guardF (dj := 63) (c := false) rfl rfl rfl rfl rfl (by decide) ?_
              refine L.guardF (dj := 63) (c := false) rfl rfl rfl rfl rfl (by decide) ?_
              refine L.pickF rfl rfl rfl ?_
              refine L.notB rfl rfl ?_
              refine L.move rfl rfl ?_
              refine L.guardF (dj := 68) (c := true) rfl rfl rfl rfl rfl (by decide) ?_
              refine L.guardF (dj := 68) (c := true) rfl rfl rfl rfl rfl (by decide) ?_
              refine L.guardF (dj := 68) (c := true) rfl rfl rfl rfl rfl (by decide) ?_
              refine L.guardU (dj := 71) rfl rfl rfl rfl rfl ?_
              refine L.guardU (dj := 71) rfl rfl rfl rfl rfl ?_
              refine L.guardU (dj := 71) rfl rfl rfl rfl rfl ?_
              refine L.guardU (dj := 74) rfl rfl rfl rfl rfl ?_
              refine L.guardU (dj := 74) rfl rfl rfl rfl rfl ?_
              refine L.guardU (dj := 74) rfl rfl rfl rfl rfl ?_
              refine L.guardU (dj := 77) rfl rfl rfl rfl rfl ?_
              refine L.guardU (dj := 77) rfl rfl rfl rfl rfl ?_
              refine L.guardU (dj := 74) rfl rfl rfl rfl rfl ?_
              refine L.guardU (dj := 71) rfl rfl rfl rfl rfl ?_
              refine L.guardF (dj := 68) (c := true) rfl rfl rfl rfl rfl (by decide) ?_
              refine L.pickT rfl rfl rfl ?_
              refine L.assign rfl rfl ?_
              refine L.nil ?_
              refine T.thenN ?_
              refine T.ret ?_
              exact T.ret1 rfl rfl ⟨congrArg Value.bool (by unfold TrI at htr; simp_all <;> omega), rfl, rfl⟩ qD qF
    · skip
      refine L.guardT (dj := 35) rfl rfl rfl ?_
      refine L.loadA rfl ag24 rfl qN ?_
      refine A.backT rfl qD ?_
      refine A.branch (is := [13]) (by kernel_rfl) (by decide) (Each.cons rfl ?_ <| Each.nil) 
      refine L.guardT (dj := 35) rfl rfl rfl ?_
      refine L.loadA rfl ag24 rfl qN ?_
      refine A.backT rfl qD ?_
      refine A.branch (is := [14]) (by kernel_rfl) (by decide) (Each.cons rfl ?_ <| Each.nil) 
      refine L.guardT (dj := 35) rfl rfl rfl ?_
      refine L.call rfl (evs.cons rfl <| evs.nil) qD qS (Told_spec (x := X) fa1 fl1 fc1 (by omega)) ?_
      rintro _ _ _ ⟨ta, tl, tc, rfl, htl, rfl, rfl⟩
      refine L.norm qA qA ?_
      refine L.ownRsl qP ?_
      refine A.backT rfl qD ?_
      refine A.branch (is := [16]) (by kernel_rfl) (by decide) (Each.cons rfl ?_ <| Each.nil) 
      refine L.guardT (dj := 35) rfl rfl rfl ?_
      refine L.call rfl (evs.cons rfl <| evs.nil) qD qS (Told_spec (x := Y) fa2 fl2 fc2 (by omega)) ?_
      rintro _ _ _ ⟨ta2, tl2, tc2, rfl, htl2, rfl, rfl⟩
      refine L.norm qA qA ?_
      refine L.ownRsl qP ?_
      refine A.backT rfl qD ?_
      refine A.branch (is := [17]) (by kernel_rfl) (by decide) (Each.cons rfl ?_ <| Each.nil) 
      refine L.guardT (dj := 35) rfl rfl rfl ?_
      refine L.callF rfl (evs.cons rfl <| evs.cons rfl <| evs.nil) qD qS (rsame_spec (l := toldT X [] 1 true true) (l2 := toldT Y [] 1 true true) (by omega)) (by rintro u D1 M1 ⟨rfl, rfl, rfl⟩; exact ⟨rfl, _, qA, qF⟩) ?_
      refine A.backT rfl qD ?_
      refine A.takeP (i := 18) rfl rfl rfl rfl (by kernel_rfl) (by kernel_rfl) (by kernel_rfl) rfl qD ?_
      refine L.guardT (dj := 35) rfl rfl rfl ?_
      refine L.neqB Try.underlying4 rfl rfl rfl ?_
      refine A.took ?_
      refine A.branch (is := [19]) (by kernel_rfl) (by decide) (Each.cons rfl ?_ <| Each.nil) 
      refine L.pickF rfl rfl rfl ?_
      refine A.backT rfl qD ?_
      refine A.takeP (i := 20) rfl rfl rfl rfl (by kernel_rfl) (by kernel_rfl) (by kernel_rfl) rfl qD ?_
      refine L.move rfl rfl ?_
      refine A.took ?_
      refine A.known (t := 45) rfl (show _ = Value.bool false from congrArg Value.bool (by simp [hts])) ?_
      refine A.takeP (i := 24) rfl rfl rfl rfl (by kernel_rfl) (by kernel_rfl) (by kernel_rfl) rfl qD ?_
      refine L.guardT (dj := 45) rfl rfl rfl ?_
      refine L.move rfl rfl ?_
      refine A.took ?_
      refine A.takeP (i := 25) rfl rfl rfl rfl (by kernel_rfl) (by kernel_rfl) (by kernel_rfl) rfl qD ?_
      refine L.guardT (dj := 45) rfl rfl rfl ?_
      refine L.eqI rfl rfl rfl ?_
      refine A.took ?_
      refine A.branch (is := [21, 22]) (by kernel_rfl) (by decide) (Each.cons rfl ?_ <| Each.cons rfl ?_ <| Each.nil) 
      · skip
        refine L.guardT (dj := 45) rfl rfl rfl ?_
        refine L.loadA rfl ag24 rfl qN ?_
        refine A.backT rfl qD ?_
        refine A.branch (is := [22]) (by kernel_rfl) (by decide) (Each.cons rfl ?_ <| Each.nil) 
        refine L.guardT (dj := 45) rfl rfl rfl ?_
        refine L.loadA rfl ag24 rfl qN ?_
        refine A.backT rfl qD ?_
        refine A.branch (is := [23]) (by kernel_rfl) (by decide) (Each.cons rfl ?_ <| Each.nil) 
        refine L.guardT (dj := 45) rfl rfl rfl ?_
        refine L.callF rfl (evs.cons rfl <| evs.cons rfl <| evs.nil) qD qS (same_spec (x := X) (z := Y) (by omega)) (by rintro u D1 M1 ⟨rfl, rfl, rfl⟩; exact ⟨rfl, _, qA, qF⟩) ?_
        refine A.backT rfl qD ?_
        refine A.takeP (i := 26) rfl rfl rfl rfl (by kernel_rfl) (by kernel_rfl) (by kernel_rfl) rfl qD ?_
        refine L.guardT (dj := 45) rfl rfl rfl ?_
        refine L.neqB Try.underlying4 rfl rfl rfl ?_
        refine A.took ?_
        refine A.branch (is := [27]) (by kernel_rfl) (by decide) (Each.cons rfl ?_ <| Each.nil) 
        refine L.pickF rfl rfl rfl ?_
        refine A.backT rfl qD ?_
        refine A.takeP (i := 28) rfl rfl rfl rfl (by kernel_rfl) (by kernel_rfl) (by kernel_rfl) rfl qD ?_
        refine L.move rfl rfl ?_
        refine A.took ?_
        refine A.known (t := 53) rfl (show _ = Value.bool false from congrArg Value.bool (by simp)) ?_
        refine A.takeP (i := 29) rfl rfl rfl rfl (by kernel_rfl) (by kernel_rfl) (by kernel_rfl) rfl qD ?_
        refine L.guardT (dj := 53) rfl rfl rfl ?_
        refine L.move rfl rfl ?_
        refine A.took ?_
        refine A.takeP (i := 30) rfl rfl rfl rfl (by kernel_rfl) (by kernel_rfl) (by kernel_rfl) rfl qD ?_
        refine L.guardT (dj := 53) rfl rfl rfl ?_
        refine L.ltI rfl rfl rfl ?_
        refine A.took ?_
        refine A.branch (is := [31]) (by kernel_rfl) (by decide) (Each.cons rfl ?_ <| Each.nil) 
        refine L.pickF rfl rfl rfl ?_
        refine A.backT rfl qD ?_
        refine A.takeP (i := 32) rfl rfl rfl rfl (by kernel_rfl) (by kernel_rfl) (by kernel_rfl) rfl qD ?_
        refine L.move rfl rfl ?_
        refine A.took ?_
        refine A.known (t := 57) rfl (show _ = Value.bool false from congrArg Value.bool (decide_eq_false (by omega))) ?_
        refine A.takeP (i := 33) rfl rfl rfl rfl (by kernel_rfl) (by kernel_rfl) (by kernel_rfl) rfl qD ?_
        refine L.guardT (dj := 57) rfl rfl rfl ?_
        refine L.move rfl rfl ?_
        refine A.took ?_
        refine A.takeP (i := 34) rfl rfl rfl rfl (by kernel_rfl) (by kernel_rfl) (by kernel_rfl) rfl qD ?_
        refine L.guardT (dj := 57) rfl rfl rfl ?_
        refine L.gtI rfl rfl rfl ?_
        refine A.took ?_
        refine A.branch (is := [35]) (by kernel_rfl) (by decide) (Each.cons rfl ?_ <| Each.nil) 
        refine L.pickF rfl rfl rfl ?_
        refine A.backT rfl qD ?_
        refine A.done (by kernel_rfl) ?_
        refine T.thenN ?_
        refine T.cond rfl (fun h60 => ?_) (fun h60 => ?_)
        · try simp only [decide_eq_true_eq, decide_eq_false_iff_not, Bool.not_eq_true', Bool.not_eq_false', Bool.and_eq_true, Bool.or_eq_true] at h60
          refine T.seq ?_
          refine T.region ?_
          refine L.assign rfl rfl ?_
          refine L.nil ?_
          refine T.thenN ?_
          refine T.ret ?_
          refine T.thenR ?_
          exact T.ret1 rfl rfl ⟨congrArg Value.bool (by unfold TrI at htr; simp_all <;> omega), rfl, rfl⟩ qD qF
        · try simp only [decide_eq_true_eq, decide_eq_false_iff_not, Bool.not_eq_true', Bool.not_eq_false', Bool.and_eq_true, Bool.or_eq_true] at h60
          refine T.skip ?_
          refine T.thenN ?_
          refine T.seq ?_
          refine T.region ?_
          refine L.move rfl rfl ?_
          refine L.leI rfl rfl rfl ?_
          refine L.move rfl rfl ?_
          refine L.part (t := 63) rfl (fun h51 => ?_) (fun h51 => ?_)
          · try simp only [decide_eq_true_eq, decide_eq_false_iff_not, Bool.not_eq_true', Bool.not_eq_false', Bool.and_eq_true, Bool.or_eq_true] at h51
            refine L.guardT (dj := 63) rfl rfl rfl ?_
            refine L.move rfl rfl ?_
            refine L.guardT (dj := 63) rfl rfl rfl ?_
            refine L.leI rfl rfl rfl ?_
            refine L.pickT rfl rfl rfl ?_
            refine L.notB rfl rfl ?_
            refine L.move rfl rfl ?_
            refine L.part (t := 68) rfl (fun h52 => ?_) (fun h52 => ?_)
            · try simp only [decide_eq_true_eq, decide_eq_false_iff_not, Bool.not_eq_true', Bool.not_eq_false', Bool.and_eq_true, Bool.or_eq_true] at h52
              refine L.guardF (dj := 68) (c := true) rfl rfl rfl rfl rfl (by decide) ?_
              refine L.guardF (dj := 68) (c := true) rfl rfl rfl rfl rfl (by decide) ?_
              refine L.guardF (dj := 68) (c := true) rfl rfl rfl rfl rfl (by decide) ?_
              refine L.guardU (dj := 71) rfl rfl rfl rfl rfl ?_
              refine L.guardU (dj := 71) rfl rfl rfl rfl rfl ?_
              refine L.guardU (dj := 71) rfl rfl rfl rfl rfl ?_
              refine L.guardU (dj := 74) rfl rfl rfl rfl rfl ?_
              refine L.guardU (dj := 74) rfl rfl rfl rfl rfl ?_
              refine L.guardU (dj := 74) rfl rfl rfl rfl rfl ?_
              refine L.guardU (dj := 77) rfl rfl rfl rfl rfl ?_
              refine L.guardU (dj := 77) rfl rfl rfl rfl rfl ?_
              refine L.guardU (dj := 74) rfl rfl rfl rfl rfl ?_
              refine L.guardU (dj := 71) rfl rfl rfl rfl rfl ?_
              refine L.guardF (dj := 68) (c := true) rfl rfl rfl rfl rfl (by decide) ?_
              refine L.pickT rfl rfl rfl ?_
              refine L.assign rfl rfl ?_
              refine L.nil ?_
              refine T.thenN ?_
              refine T.ret ?_
              exact T.ret1 rfl rfl ⟨congrArg Value.bool (by unfold TrI at htr; simp_all <;> omega), rfl, rfl⟩ qD qF
            · try simp only [decide_eq_true_eq, decide_eq_false_iff_not, Bool.not_eq_true', Bool.not_eq_false', Bool.and_eq_true, Bool.or_eq_true] at h52
              refine L.guardT (dj := 68) rfl rfl rfl ?_
              refine L.move rfl rfl ?_
              refine L.guardT (dj := 68) rfl rfl rfl ?_
              refine L.leI rfl rfl rfl ?_
              refine L.guardT (dj := 68) rfl rfl rfl ?_
              refine L.move rfl rfl ?_
              refine L.part (t := 71) rfl (fun h53 => ?_) (fun h53 => ?_)
              · try simp only [decide_eq_true_eq, decide_eq_false_iff_not, Bool.not_eq_true', Bool.not_eq_false', Bool.and_eq_true, Bool.or_eq_true] at h53
                refine L.guardT (dj := 71) rfl rfl rfl ?_
                refine L.move rfl rfl ?_
                refine L.guardT (dj := 71) rfl rfl rfl ?_
                refine L.ltI rfl rfl rfl ?_
                refine L.guardT (dj := 71) rfl rfl rfl ?_
                refine L.move rfl rfl ?_
                refine L.part (t := 74) rfl (fun h54 => ?_) (fun h54 => ?_)
                · try simp only [decide_eq_true_eq, decide_eq_false_iff_not, Bool.not_eq_true', Bool.not_eq_false', Bool.and_eq_true, Bool.or_eq_true] at h54
                  refine L.guardF (dj := 74) (c := true) rfl rfl rfl rfl rfl (by decide) ?_
                  refine L.guardF (dj := 74) (c := true) rfl rfl rfl rfl rfl (by decide) ?_
                  refine L.guardF (dj := 74) (c := true) rfl rfl rfl rfl rfl (by decide) ?_
                  refine L.guardU (dj := 77) rfl rfl rfl rfl rfl ?_
                  refine L.guardU (dj := 77) rfl rfl rfl rfl rfl ?_
                  refine L.guardF (dj := 74) (c := true) rfl rfl rfl rfl rfl (by decide) ?_
                  refine L.guardT (dj := 71) rfl rfl rfl ?_
                  refine L.pickT rfl rfl rfl ?_
                  refine L.guardT (dj := 68) rfl rfl rfl ?_
                  refine L.pickT rfl rfl rfl ?_
                  refine L.pickF rfl rfl rfl ?_
                  refine L.assign rfl rfl ?_
                  refine L.nil ?_
                  refine T.thenN ?_
                  refine T.ret ?_
                  exact T.ret1 rfl rfl ⟨congrArg Value.bool (by unfold TrI at htr; simp_all <;> omega), rfl, rfl⟩ qD qF
                · try simp only [decide_eq_true_eq, decide_eq_false_iff_not, Bool.not_eq_true', Bool.not_eq_false', Bool.and_eq_true, Bool.or_eq_true] at h54
                  refine L.guardT (dj := 74) rfl rfl rfl ?_
                  refine L.move rfl rfl ?_
                  refine L.guardT (dj := 74) rfl rfl rfl ?_
                  refine L.eqI rfl rfl rfl ?_
                  refine L.guardT (dj := 74) rfl rfl rfl ?_
                  refine L.move rfl rfl ?_
                  refine L.part (t := 77) rfl (fun h55 => ?_) (fun h55 => ?_)
                  · try simp only [decide_eq_true_eq, decide_eq_false_iff_not, Bool.not_eq_true', Bool.not_eq_false', Bool.and_eq_true, Bool.or_eq_true] at h55
                    refine L.guardT (dj := 77) rfl rfl rfl ?_
                    refine L.move rfl rfl ?_
                    refine L.guardT (dj := 77) rfl rfl rfl ?_
                    refine L.eqI rfl rfl rfl ?_
                    refine L.guardT (dj := 74) rfl rfl rfl ?_
                    refine L.pickT rfl rfl rfl ?_
                    refine L.guardT (dj := 71) rfl rfl rfl ?_
                    refine L.pickF rfl rfl rfl ?_
                    refine L.guardT (dj := 68) rfl rfl rfl ?_
                    refine L.pickT rfl rfl rfl ?_
                    refine L.pickF rfl rfl rfl ?_
                    refine L.assign rfl rfl ?_
                    refine L.nil ?_
                    refine T.thenN ?_
                    refine T.ret ?_
                    exact T.ret1 rfl rfl ⟨congrArg Value.bool (by unfold TrI at htr; simp_all <;> omega), rfl, rfl⟩ qD qF
                  · try simp only [decide_eq_true_eq, decide_eq_false_iff_not, Bool.not_eq_true', Bool.not_eq_false', Bool.and_eq_true, Bool.or_eq_true] at h55
                    refine L.guardF (dj := 77) (c := false) rfl rfl rfl rfl rfl (by decide) ?_
                    refine L.guardF (dj := 77) (c := false) rfl rfl rfl rfl rfl (by decide) ?_
                    refine L.guardT (dj := 74) rfl rfl rfl ?_
                    refine L.pickF rfl rfl rfl ?_
                    refine L.guardT (dj := 71) rfl rfl rfl ?_
                    refine L.pickF rfl rfl rfl ?_
                    refine L.guardT (dj := 68) rfl rfl rfl ?_
                    refine L.pickT rfl rfl rfl ?_
                    refine L.pickF rfl rfl rfl ?_
                    refine L.assign rfl rfl ?_
                    refine L.nil ?_
                    refine T.thenN ?_
                    refine T.ret ?_
                    exact T.ret1 rfl rfl ⟨congrArg Value.bool (by unfold TrI at htr; simp_all <;> omega), rfl, rfl⟩ qD qF
              · try simp only [decide_eq_true_eq, decide_eq_false_iff_not, Bool.not_eq_true', Bool.not_eq_false', Bool.and_eq_true, Bool.or_eq_true] at h53
                refine L.guardF (dj := 71) (c := false) rfl rfl rfl rfl rfl (by decide) ?_
                refine L.guardF (dj := 71) (c := false) rfl rfl rfl rfl rfl (by decide) ?_
                refine L.guardF (dj := 71) (c := false) rfl rfl rfl rfl rfl (by decide) ?_
                refine L.guardU (dj := 74) rfl rfl rfl rfl rfl ?_
                refine L.guardU (dj := 74) rfl rfl rfl rfl rfl ?_
                refine L.guardU (dj := 74) rfl rfl rfl rfl rfl ?_
                refine L.guardU (dj := 77) rfl rfl rfl rfl rfl ?_
                refine L.guardU (dj := 77) rfl rfl rfl rfl rfl ?_
                refine L.guardU (dj := 74) rfl rfl rfl rfl rfl ?_
                refine L.guardF (dj := 71) (c := false) rfl rfl rfl rfl rfl (by decide) ?_
                refine L.guardT (dj := 68) rfl rfl rfl ?_
                refine L.pickF rfl rfl rfl ?_
                refine L.pickF rfl rfl rfl ?_
                refine L.assign rfl rfl ?_
                refine L.nil ?_
                refine T.thenN ?_
                refine T.ret ?_
                exact T.ret1 rfl rfl ⟨congrArg Value.bool (by unfold TrI at htr; simp_all <;> omega), rfl, rfl⟩ qD qF
          · try simp only [decide_eq_true_eq, decide_eq_false_iff_not, Bool.not_eq_true', Bool.not_eq_false', Bool.and_eq_true, Bool.or_eq_true] at h51
            refine L.guardF (dj := 63) (c := false) rfl rfl rfl rfl rfl (by decide) ?_
            refine L.guardF (dj := 63) (c := false) rfl rfl rfl rfl rfl (by decide) ?_
            refine L.pickF rfl rfl rfl ?_
            refine L.notB rfl rfl ?_
            refine L.move rfl rfl ?_
            refine L.guardF (dj := 68) (c := true) rfl rfl rfl rfl rfl (by decide) ?_
            refine L.guardF (dj := 68) (c := true) rfl rfl rfl rfl rfl (by decide) ?_
            refine L.guardF (dj := 68) (c := true) rfl rfl rfl rfl rfl (by decide) ?_
            refine L.guardU (dj := 71) rfl rfl rfl rfl rfl ?_
            refine L.guardU (dj := 71) rfl rfl rfl rfl rfl ?_
            refine L.guardU (dj := 71) rfl rfl rfl rfl rfl ?_
            refine L.guardU (dj := 74) rfl rfl rfl rfl rfl ?_
            refine L.guardU (dj := 74) rfl rfl rfl rfl rfl ?_
            refine L.guardU (dj := 74) rfl rfl rfl rfl rfl ?_
            refine L.guardU (dj := 77) rfl rfl rfl rfl rfl ?_
            refine L.guardU (dj := 77) rfl rfl rfl rfl rfl ?_
            refine L.guardU (dj := 74) rfl rfl rfl rfl rfl ?_
            refine L.guardU (dj := 71) rfl rfl rfl rfl rfl ?_
            refine L.guardF (dj := 68) (c := true) rfl rfl rfl rfl rfl (by decide) ?_
            refine L.pickT rfl rfl rfl ?_
            refine L.assign rfl rfl ?_
            refine L.nil ?_
            refine T.thenN ?_
            refine T.ret ?_
            exact T.ret1 rfl rfl ⟨congrArg Value.bool (by unfold TrI at htr; simp_all <;> omega), rfl, rfl⟩ qD qF
      · skip
        refine L.guardT (dj := 45) rfl rfl rfl ?_
        refine L.loadA rfl ag24 rfl qN ?_
        refine A.backT rfl qD ?_
        refine A.branch (is := [21]) (by kernel_rfl) (by decide) (Each.cons rfl ?_ <| Each.nil) 
        refine L.guardT (dj := 45) rfl rfl rfl ?_
        refine L.loadA rfl ag24 rfl qN ?_
        refine A.backT rfl qD ?_
        refine A.branch (is := [23]) (by kernel_rfl) (by decide) (Each.cons rfl ?_ <| Each.nil) 
        refine L.guardT (dj := 45) rfl rfl rfl ?_
        refine L.callF rfl (evs.cons rfl <| evs.cons rfl <| evs.nil) qD qS (same_spec (x := X) (z := Y) (by omega)) (by rintro u D1 M1 ⟨rfl, rfl, rfl⟩; exact ⟨rfl, _, qA, qF⟩) ?_
        refine A.backT rfl qD ?_
        refine A.takeP (i := 26) rfl rfl rfl rfl (by kernel_rfl) (by kernel_rfl) (by kernel_rfl) rfl qD ?_
        refine L.guardT (dj := 45) rfl rfl rfl ?_
        refine L.neqB Try.underlying4 rfl rfl rfl ?_
        refine A.took ?_
        refine A.branch (is := [27]) (by kernel_rfl) (by decide) (Each.cons rfl ?_ <| Each.nil) 
        refine L.pickF rfl rfl rfl ?_
        refine A.backT rfl qD ?_
        refine A.takeP (i := 28) rfl rfl rfl rfl (by kernel_rfl) (by kernel_rfl) (by kernel_rfl) rfl qD ?_
        refine L.move rfl rfl ?_
        refine A.took ?_
        refine A.known (t := 53) rfl (show _ = Value.bool false from congrArg Value.bool (by simp)) ?_
        refine A.takeP (i := 29) rfl rfl rfl rfl (by kernel_rfl) (by kernel_rfl) (by kernel_rfl) rfl qD ?_
        refine L.guardT (dj := 53) rfl rfl rfl ?_
        refine L.move rfl rfl ?_
        refine A.took ?_
        refine A.takeP (i := 30) rfl rfl rfl rfl (by kernel_rfl) (by kernel_rfl) (by kernel_rfl) rfl qD ?_
        refine L.guardT (dj := 53) rfl rfl rfl ?_
        refine L.ltI rfl rfl rfl ?_
        refine A.took ?_
        refine A.branch (is := [31]) (by kernel_rfl) (by decide) (Each.cons rfl ?_ <| Each.nil) 
        refine L.pickF rfl rfl rfl ?_
        refine A.backT rfl qD ?_
        refine A.takeP (i := 32) rfl rfl rfl rfl (by kernel_rfl) (by kernel_rfl) (by kernel_rfl) rfl qD ?_
        refine L.move rfl rfl ?_
        refine A.took ?_
        refine A.known (t := 57) rfl (show _ = Value.bool false from congrArg Value.bool (decide_eq_false (by omega))) ?_
        refine A.takeP (i := 33) rfl rfl rfl rfl (by kernel_rfl) (by kernel_rfl) (by kernel_rfl) rfl qD ?_
        refine L.guardT (dj := 57) rfl rfl rfl ?_
        refine L.move rfl rfl ?_
        refine A.took ?_
        refine A.takeP (i := 34) rfl rfl rfl rfl (by kernel_rfl) (by kernel_rfl) (by kernel_rfl) rfl qD ?_
        refine L.guardT (dj := 57) rfl rfl rfl ?_
        refine L.gtI rfl rfl rfl ?_
        refine A.took ?_
        refine A.branch (is := [35]) (by kernel_rfl) (by decide) (Each.cons rfl ?_ <| Each.nil) 
        refine L.pickF rfl rfl rfl ?_
        refine A.backT rfl qD ?_
        refine A.done (by kernel_rfl) ?_
        refine T.thenN ?_
        refine T.cond rfl (fun h60 => ?_) (fun h60 => ?_)
        · try simp only [decide_eq_true_eq, decide_eq_false_iff_not, Bool.not_eq_true', Bool.not_eq_false', Bool.and_eq_true, Bool.or_eq_true] at h60
          refine T.seq ?_
          refine T.region ?_
          refine L.assign rfl rfl ?_
          refine L.nil ?_
          refine T.thenN ?_
          refine T.ret ?_
          refine T.thenR ?_
          exact T.ret1 rfl rfl ⟨congrArg Value.bool (by unfold TrI at htr; simp_all <;> omega), rfl, rfl⟩ qD qF
        · try simp only [decide_eq_true_eq, decide_eq_false_iff_not, Bool.not_eq_true', Bool.not_eq_false', Bool.and_eq_true, Bool.or_eq_true] at h60
          refine T.skip ?_
          refine T.thenN ?_
          refine T.seq ?_
          refine T.region ?_
          refine L.move rfl rfl ?_
          refine L.leI rfl rfl rfl ?_
          refine L.move rfl rfl ?_
          refine L.part (t := 63) rfl (fun h56 => ?_) (fun h56 => ?_)
          · try simp only [decide_eq_true_eq, decide_eq_false_iff_not, Bool.not_eq_true', Bool.not_eq_false', Bool.and_eq_true, Bool.or_eq_true] at h56
            refine L.guardT (dj := 63) rfl rfl rfl ?_
            refine L.move rfl rfl ?_
            refine L.guardT (dj := 63) rfl rfl rfl ?_
            refine L.leI rfl rfl rfl ?_
            refine L.pickT rfl rfl rfl ?_
            refine L.notB rfl rfl ?_
            refine L.move rfl rfl ?_
            refine L.part (t := 68) rfl (fun h57 => ?_) (fun h57 => ?_)
            · try simp only [decide_eq_true_eq, decide_eq_false_iff_not, Bool.not_eq_true', Bool.not_eq_false', Bool.and_eq_true, Bool.or_eq_true] at h57
              refine L.guardF (dj := 68) (c := true) rfl rfl rfl rfl rfl (by decide) ?_
              refine L.guardF (dj := 68) (c := true) rfl rfl rfl rfl rfl (by decide) ?_
              refine L.guardF (dj := 68) (c := true) rfl rfl rfl rfl rfl (by decide) ?_
              refine L.guardU (dj := 71) rfl rfl rfl rfl rfl ?_
              refine L.guardU (dj := 71) rfl rfl rfl rfl rfl ?_
              refine L.guardU (dj := 71) rfl rfl rfl rfl rfl ?_
              refine L.guardU (dj := 74) rfl rfl rfl rfl rfl ?_
              refine L.guardU (dj := 74) rfl rfl rfl rfl rfl ?_
              refine L.guardU (dj := 74) rfl rfl rfl rfl rfl ?_
              refine L.guardU (dj := 77) rfl rfl rfl rfl rfl ?_
              refine L.guardU (dj := 77) rfl rfl rfl rfl rfl ?_
              refine L.guardU (dj := 74) rfl rfl rfl rfl rfl ?_
              refine L.guardU (dj := 71) rfl rfl rfl rfl rfl ?_
              refine L.guardF (dj := 68) (c := true) rfl rfl rfl rfl rfl (by decide) ?_
              refine L.pickT rfl rfl rfl ?_
              refine L.assign rfl rfl ?_
              refine L.nil ?_
              refine T.thenN ?_
              refine T.ret ?_
              exact T.ret1 rfl rfl ⟨congrArg Value.bool (by unfold TrI at htr; simp_all <;> omega), rfl, rfl⟩ qD qF
            · try simp only [decide_eq_true_eq, decide_eq_false_iff_not, Bool.not_eq_true', Bool.not_eq_false', Bool.and_eq_true, Bool.or_eq_true] at h57
              refine L.guardT (dj := 68) rfl rfl rfl ?_
              refine L.move rfl rfl ?_
              refine L.guardT (dj := 68) rfl rfl rfl ?_
              refine L.leI rfl rfl rfl ?_
              refine L.guardT (dj := 68) rfl rfl rfl ?_
              refine L.move rfl rfl ?_
              refine L.part (t := 71) rfl (fun h58 => ?_) (fun h58 => ?_)
              · try simp only [decide_eq_true_eq, decide_eq_false_iff_not, Bool.not_eq_true', Bool.not_eq_false', Bool.and_eq_true, Bool.or_eq_true] at h58
                refine L.guardT (dj := 71) rfl rfl rfl ?_
                refine L.move rfl rfl ?_
                refine L.guardT (dj := 71) rfl rfl rfl ?_
                refine L.ltI rfl rfl rfl ?_
                refine L.guardT (dj := 71) rfl rfl rfl ?_
                refine L.move rfl rfl ?_
                refine L.part (t := 74) rfl (fun h59 => ?_) (fun h59 => ?_)
                · try simp only [decide_eq_true_eq, decide_eq_false_iff_not, Bool.not_eq_true', Bool.not_eq_false', Bool.and_eq_true, Bool.or_eq_true] at h59
                  refine L.guardF (dj := 74) (c := true) rfl rfl rfl rfl rfl (by decide) ?_
                  refine L.guardF (dj := 74) (c := true) rfl rfl rfl rfl rfl (by decide) ?_
                  refine L.guardF (dj := 74) (c := true) rfl rfl rfl rfl rfl (by decide) ?_
                  refine L.guardU (dj := 77) rfl rfl rfl rfl rfl ?_
                  refine L.guardU (dj := 77) rfl rfl rfl rfl rfl ?_
                  refine L.guardF (dj := 74) (c := true) rfl rfl rfl rfl rfl (by decide) ?_
                  refine L.guardT (dj := 71) rfl rfl rfl ?_
                  refine L.pickT rfl rfl rfl ?_
                  refine L.guardT (dj := 68) rfl rfl rfl ?_
                  refine L.pickT rfl rfl rfl ?_
                  refine L.pickF rfl rfl rfl ?_
                  refine L.assign rfl rfl ?_
                  refine L.nil ?_
                  refine T.thenN ?_
                  refine T.ret ?_
                  exact T.ret1 rfl rfl ⟨congrArg Value.bool (by unfold TrI at htr; simp_all <;> omega), rfl, rfl⟩ qD qF
                · try simp only [decide_eq_true_eq, decide_eq_false_iff_not, Bool.not_eq_true', Bool.not_eq_false', Bool.and_eq_true, Bool.or_eq_true] at h59
                  refine L.guardT (dj := 74) rfl rfl rfl ?_
                  refine L.move rfl rfl ?_
                  refine L.guardT (dj := 74) rfl rfl rfl ?_
                  refine L.eqI rfl rfl rfl ?_
                  refine L.guardT (dj := 74) rfl rfl rfl ?_
                  refine L.move rfl rfl ?_
                  refine L.part (t := 77) rfl (fun h60 => ?_) (fun h60 => ?_)
                  · try simp only [decide_eq_true_eq, decide_eq_false_iff_not, Bool.not_eq_true', Bool.not_eq_false', Bool.and_eq_true, Bool.or_eq_true] at h60
                    refine L.guardT (dj := 77) rfl rfl rfl ?_
                    refine L.move rfl rfl ?_
                    refine L.guardT (dj := 77) rfl rfl rfl ?_
                    refine L.eqI rfl rfl rfl ?_
                    refine L.guardT (dj := 74) rfl rfl rfl ?_
                    refine L.pickT rfl rfl rfl ?_
                    refine L.guardT (dj := 71) rfl rfl rfl ?_
                    refine L.pickF rfl rfl rfl ?_
                    refine L.guardT (dj := 68) rfl rfl rfl ?_
                    refine L.pickT rfl rfl rfl ?_
                    refine L.pickF rfl rfl rfl ?_
                    refine L.assign rfl rfl ?_
                    refine L.nil ?_
                    refine T.thenN ?_
                    refine T.ret ?_
                    exact T.ret1 rfl rfl ⟨congrArg Value.bool (by unfold TrI at htr; simp_all <;> omega), rfl, rfl⟩ qD qF
                  · try simp only [decide_eq_true_eq, decide_eq_false_iff_not, Bool.not_eq_true', Bool.not_eq_false', Bool.and_eq_true, Bool.or_eq_true] at h60
                    refine L.guardF (dj := 77) (c := false) rfl rfl rfl rfl rfl (by decide) ?_
                    refine L.guardF (dj := 77) (c := false) rfl rfl rfl rfl rfl (by decide) ?_
                    refine L.guardT (dj := 74) rfl rfl rfl ?_
                    refine L.pickF rfl rfl rfl ?_
                    refine L.guardT (dj := 71) rfl rfl rfl ?_
                    refine L.pickF rfl rfl rfl ?_
                    refine L.guardT (dj := 68) rfl rfl rfl ?_
                    refine L.pickT rfl rfl rfl ?_
                    refine L.pickF rfl rfl rfl ?_
                    refine L.assign rfl rfl ?_
                    refine L.nil ?_
                    refine T.thenN ?_
                    refine T.ret ?_
                    exact T.ret1 rfl rfl ⟨congrArg Value.bool (by unfold TrI at htr; simp_all <;> omega), rfl, rfl⟩ qD qF
              · try simp only [decide_eq_true_eq, decide_eq_false_iff_not, Bool.not_eq_true', Bool.not_eq_false', Bool.and_eq_true, Bool.or_eq_true] at h58
                refine L.guardF (dj := 71) (c := false) rfl rfl rfl rfl rfl (by decide) ?_
                refine L.guardF (dj := 71) (c := false) rfl rfl rfl rfl rfl (by decide) ?_
                refine L.guardF (dj := 71) (c := false) rfl rfl rfl rfl rfl (by decide) ?_
                refine L.guardU (dj := 74) rfl rfl rfl rfl rfl ?_
                refine L.guardU (dj := 74) rfl rfl rfl rfl rfl ?_
                refine L.guardU (dj := 74) rfl rfl rfl rfl rfl ?_
                refine L.guardU (dj := 77) rfl rfl rfl rfl rfl ?_
                refine L.guardU (dj := 77) rfl rfl rfl rfl rfl ?_
                refine L.guardU (dj := 74) rfl rfl rfl rfl rfl ?_
                refine L.guardF (dj := 71) (c := false) rfl rfl rfl rfl rfl (by decide) ?_
                refine L.guardT (dj := 68) rfl rfl rfl ?_
                refine L.pickF rfl rfl rfl ?_
                refine L.pickF rfl rfl rfl ?_
                refine L.assign rfl rfl ?_
                refine L.nil ?_
                refine T.thenN ?_
                refine T.ret ?_
                exact T.ret1 rfl rfl ⟨congrArg Value.bool (by unfold TrI at htr; simp_all <;> omega), rfl, rfl⟩ qD qF
          · try simp only [decide_eq_true_eq, decide_eq_false_iff_not, Bool.not_eq_true', Bool.not_eq_false', Bool.and_eq_true, Bool.or_eq_true] at h56
            refine L.guardF (dj := 63) (c := false) rfl rfl rfl rfl rfl (by decide) ?_
            refine L.guardF (dj := 63) (c := false) rfl rfl rfl rfl rfl (by decide) ?_
            refine L.pickF rfl rfl rfl ?_
            refine L.notB rfl rfl ?_
            refine L.move rfl rfl ?_
            refine L.guardF (dj := 68) (c := true) rfl rfl rfl rfl rfl (by decide) ?_
            refine L.guardF (dj := 68) (c := true) rfl rfl rfl rfl rfl (by decide) ?_
            refine L.guardF (dj := 68) (c := true) rfl rfl rfl rfl rfl (by decide) ?_
            refine L.guardU (dj := 71) rfl rfl rfl rfl rfl ?_
            refine L.guardU (dj := 71) rfl rfl rfl rfl rfl ?_
            refine L.guardU (dj := 71) rfl rfl rfl rfl rfl ?_
            refine L.guardU (dj := 74) rfl rfl rfl rfl rfl ?_
            refine L.guardU (dj := 74) rfl rfl rfl rfl rfl ?_
            refine L.guardU (dj := 74) rfl rfl rfl rfl rfl ?_
            refine L.guardU (dj := 77) rfl rfl rfl rfl rfl ?_
            refine L.guardU (dj := 77) rfl rfl rfl rfl rfl ?_
            refine L.guardU (dj := 74) rfl rfl rfl rfl rfl ?_
            refine L.guardU (dj := 71) rfl rfl rfl rfl rfl ?_
            refine L.guardF (dj := 68) (c := true) rfl rfl rfl rfl rfl (by decide) ?_
            refine L.pickT rfl rfl rfl ?_
            refine L.assign rfl rfl ?_
            refine L.nil ?_
            refine T.thenN ?_
            refine T.ret ?_
            exact T.ret1 rfl rfl ⟨congrArg Value.bool (by unfold TrI at htr; simp_all <;> omega), rfl, rfl⟩ qD qF
end Cv
