/-
  The walks: bytes read, as the document tells it.
-/
import Derived.Test.YtcilkdnbbebjgaaGreatF06
import Derived.Test.YtcilkdnbbebjgaaGreatProg
import Derived.KernelRfl
set_option linter.unusedVariables false
set_option linter.unusedSimpArgs false
set_option linter.unusedSectionVars false
set_option maxRecDepth 10000
namespace Cv
open Go Go.Proofs

set_option maxHeartbeats 400000 in
theorem rbytes_spec {b : Bl} {n : Nat} (hn : n ≤ 1000000000) : Spec Tryz.prog 53 [.agg (blR b).toArray, .int .i64 (n : Int)] [] [] (fun v D' M' => v = .tuple #[.agg (blR (bytB b n).2).toArray, S (bytB b n).1] ∧ D' = [] ∧ M' = []) := by
  refine Spec.intro (n := 29) Tryz.func53 rfl rfl (by decide) (Nat.le_of_ble_eq_true rfl) rfl (fun _ => qA) (fun _ => qA) ?_
  intro σ D M
  refine T.seq ?_
  refine T.region ?_
  refine L.box rfl rfl rfl (fun b2 => ?_)
  refine L.alloc rfl ze105 (fun b4 => ?_)
  refine L.assign rfl rfl ?_
  refine L.nil ?_
  refine T.freeze (A := cl b2 105 (blR b)) qP ?_
  refine T.thenN ?_
  refine T.seq ?_
  refine T.seq ?_
  refine T.region ?_
  first | refine L.field0 rfl fo105_1 rfl ?_ | refine L.field rfl fo105_1 rfl ?_
  refine L.load rfl sc3 rfl qC ?_
  refine L.neI rfl rfl rfl ?_
  refine L.nil ?_
  refine T.thenN ?_
  refine T.cond rfl (fun h8 => ?_) (fun h8 => ?_)
  · try simp only [decide_eq_true_eq, decide_eq_false_iff_not, Bool.not_eq_true', Bool.not_eq_false', Bool.and_eq_true, Bool.or_eq_true] at h8
    refine T.seq ?_
    refine T.region ?_
    refine L.loadA rfl ag105 rfl qN ?_
    refine L.storeA ag105 rfl rfl qL qO qU qW ?_
    refine L.assign rfl rfl ?_
    refine L.nil ?_
    refine T.thenN ?_
    refine T.ret ?_
    refine T.thenR ?_
    have hbe := byt_bad (b := b) (n := n) h8
    exact T.retAT rfl ag105 rfl qN rfl ⟨by rw [hbe]; rfl, rfl, rfl⟩ qD qF
  · try simp only [decide_eq_true_eq, decide_eq_false_iff_not, Bool.not_eq_true', Bool.not_eq_false', Bool.and_eq_true, Bool.or_eq_true] at h8
    refine T.skip ?_
    refine T.thenN ?_
    refine T.seq ?_
    refine T.seq ?_
    refine T.region ?_
    refine L.move rfl rfl ?_
    refine L.ltI rfl rfl rfl ?_
    refine L.move rfl rfl ?_
    refine L.known (t := 12) rfl (show _ = Value.bool false from congrArg Value.bool (decide_eq_false (by omega))) ?_
    refine L.guardT (dj := 12) rfl rfl rfl ?_
    refine L.move rfl rfl ?_
    refine L.guardT (dj := 12) rfl rfl rfl ?_
    first | refine L.field0 rfl fo105_0 rfl ?_ | refine L.field rfl fo105_0 rfl ?_
    refine L.guardT (dj := 12) rfl rfl rfl ?_
    refine L.load rfl sc9 rfl qC ?_
    refine L.guardT (dj := 12) rfl rfl rfl ?_
    refine L.lenStr rfl Tryz.underlying9 rfl ?_
    refine L.guardT (dj := 12) rfl rfl rfl ?_
    refine L.gtI rfl rfl rfl ?_
    refine L.pickF rfl rfl rfl ?_
    refine L.nil ?_
    refine T.thenN ?_
    refine T.cond rfl (fun h18 => ?_) (fun h18 => ?_)
    · try simp only [decide_eq_true_eq, decide_eq_false_iff_not, Bool.not_eq_true', Bool.not_eq_false', Bool.and_eq_true, Bool.or_eq_true] at h18
      refine T.seq ?_
      refine T.region ?_
      refine L.build rfl bu105 (BP.one rfl rfl rfl <| BP.one rfl rfl rfl <| BP.doneE (out := []) rfl) ?_
      refine L.storeA ag105 rfl rfl qL qO qU qW ?_
      refine L.assign rfl rfl ?_
      refine L.nil ?_
      refine T.thenN ?_
      refine T.ret ?_
      refine T.thenR ?_
      have hbe := byt_out (b := b) (n := n) (by omega) (by omega)
      exact T.retAT rfl ag105 rfl qN rfl ⟨by rw [hbe]; rfl, rfl, rfl⟩ qD qF
    · try simp only [decide_eq_true_eq, decide_eq_false_iff_not, Bool.not_eq_true', Bool.not_eq_false', Bool.and_eq_true, Bool.or_eq_true] at h18
      have hbe := byt_ok (b := b) (n := n) (by omega) (by omega)
      refine T.skip ?_
      refine T.thenN ?_
      refine T.seq ?_
      refine T.regionA (clsL [1, 1, 1, 1, 1, 1, 1, 1, 1, 2, 1]) (by kernel_rfl) ?_
      refine A.takeP (i := 0) rfl rfl rfl rfl (by kernel_rfl) (by kernel_rfl) (by kernel_rfl) rfl qD ?_
      first | refine L.field0 rfl fo105_0 rfl ?_ | refine L.field rfl fo105_0 rfl ?_
      refine A.took ?_
      refine A.takeP (i := 1) rfl rfl rfl rfl (by kernel_rfl) (by kernel_rfl) (by kernel_rfl) rfl qD ?_
      refine L.load rfl sc9 rfl qC ?_
      refine A.took ?_
      refine A.takeP (i := 2) rfl rfl rfl rfl (by kernel_rfl) (by kernel_rfl) (by kernel_rfl) rfl qD ?_
      refine L.move rfl rfl ?_
      refine A.took ?_
      refine A.takeP (i := 3) rfl rfl rfl rfl (by kernel_rfl) (by kernel_rfl) (by kernel_rfl) rfl qD ?_
      refine L.sliceS (a := n) (b := _) rfl Tryz.underlying9 rfl ⟨_, (by first | rfl | (congr 2; omega))⟩ rfl qI qI ?_
      refine A.took ?_
      refine A.takeP (i := 4) rfl rfl rfl rfl (by kernel_rfl) (by kernel_rfl) (by kernel_rfl) rfl qD ?_
      refine L.build rfl bu105 (BP.one rfl rfl rfl <| BP.one rfl rfl rfl <| BP.doneE (out := []) rfl) ?_
      refine A.took ?_
      refine A.takeP (i := 5) rfl rfl rfl rfl (by kernel_rfl) (by kernel_rfl) (by kernel_rfl) rfl qD ?_
      first | refine L.field0 rfl fo105_0 rfl ?_ | refine L.field rfl fo105_0 rfl ?_
      refine A.took ?_
      refine A.takeP (i := 6) rfl rfl rfl rfl (by kernel_rfl) (by kernel_rfl) (by kernel_rfl) rfl qD ?_
      refine L.load rfl sc9 rfl qC ?_
      refine A.took ?_
      refine A.takeP (i := 7) rfl rfl rfl rfl (by kernel_rfl) (by kernel_rfl) (by kernel_rfl) rfl qD ?_
      refine L.move rfl rfl ?_
      refine A.took ?_
      refine A.takeP (i := 8) rfl rfl rfl rfl (by kernel_rfl) (by kernel_rfl) (by kernel_rfl) rfl qD ?_
      refine L.sliceS (a := 0) (b := n) rfl Tryz.underlying9 rfl rfl ⟨_, (by first | rfl | (congr 2; omega))⟩ qI qI ?_
      refine A.took ?_
      refine A.branch (is := [9]) (by kernel_rfl) (by decide) (Each.cons rfl ?_ <| Each.nil) 
      refine L.storeA ag105 rfl rfl qL qO qU qW ?_
      refine A.backT rfl qD ?_
      refine A.takeP (i := 10) rfl rfl rfl rfl (by kernel_rfl) (by kernel_rfl) (by kernel_rfl) rfl qD ?_
      refine L.assign rfl rfl ?_
      refine A.took ?_
      refine A.done (by kernel_rfl) ?_
      refine T.thenN ?_
      refine T.ret ?_
      exact T.retAT rfl ag105 rfl qN rfl ⟨by rw [hbe]; simp, rfl, rfl⟩ qD qF
set_option maxHeartbeats 400000 in
theorem rtnum_spec {b : Bl}  : Spec Tryz.prog 96 [.agg (blR b).toArray] [] [] (fun v D' M' => v = .tuple #[.agg (blR (numR b).2).toArray, .int .u64 ((numR b).1 : Int)] ∧ D' = [] ∧ M' = []) := by
  refine Spec.intro (n := 57) Tryz.func96 rfl rfl (by decide) (Nat.le_of_ble_eq_true rfl) rfl (fun _ => qA) (fun _ => qA) ?_
  intro σ D M
  refine T.seq ?_
  refine T.region ?_
  refine L.box rfl rfl rfl (fun b1 => ?_)
  refine L.alloc rfl ze105 (fun b2 => ?_)
  refine L.assign rfl rfl ?_
  refine L.nil ?_
  refine T.thenN ?_
  refine T.seq ?_
  refine T.region ?_
  refine L.loadA rfl ag105 rfl qN ?_
  refine L.callF rfl (evs.cons rfl <| evs.cons rfl <| evs.nil) qD qS (rbytes_spec (b := b) (n := 1) (by decide)) (by rintro u D1 M1 ⟨rfl, rfl, rfl⟩; exact ⟨rfl, _, qA, qF⟩) ?_
  refine L.move rfl rfl ?_
  refine L.extract rfl rfl rfl ?_
  refine L.extract rfl rfl rfl ?_
  refine L.storeA ag105 rfl rfl qL qO qU qW ?_
  refine L.assign rfl rfl ?_
  refine L.nil ?_
  refine T.thenN ?_
  refine T.seq ?_
  refine T.seq ?_
  refine T.region ?_
  first | refine L.field0 rfl fo105_1 rfl ?_ | refine L.field rfl fo105_1 rfl ?_
  refine L.load rfl sc3 rfl qC ?_
  refine L.neI rfl rfl rfl ?_
  refine L.nil ?_
  refine T.thenN ?_
  refine T.cond rfl (fun h16 => ?_) (fun h16 => ?_)
  · try simp only [decide_eq_true_eq, decide_eq_false_iff_not, Bool.not_eq_true', Bool.not_eq_false', Bool.and_eq_true, Bool.or_eq_true] at h16
    refine T.seq ?_
    refine T.region ?_
    refine L.loadA rfl ag105 rfl qN ?_
    refine L.storeA ag105 rfl rfl qL qO qU qW ?_
    refine L.assign rfl rfl ?_
    refine L.nil ?_
    refine T.thenN ?_
    refine T.ret ?_
    refine T.thenR ?_
    exact T.retAT rfl ag105 rfl qN rfl ⟨by rw [num_1 h16]; rfl, rfl, rfl⟩ qD qF
  · try simp only [decide_eq_true_eq, decide_eq_false_iff_not, Bool.not_eq_true', Bool.not_eq_false', Bool.and_eq_true, Bool.or_eq_true] at h16
    have hpe : (bytB b 1).2.err = 0 := Decidable.not_not.1 h16
    have hpl := (byt_len (b := b) (n := 1) (by decide) hpe).1
    obtain ⟨c, hc⟩ : ∃ c, c = (bytB b 1).1.getD 0 0 := ⟨_, rfl⟩
    have hc0 : (bytB b 1).1[0]? = some c := by rw [hc, List.getD_eq_getElem?_getD, List.getElem?_eq_getElem (by omega)]; rfl
    have hcl := c.toNat_lt
    rw [show ((1 : Nat) : Int) = 1 from rfl]
    refine T.skip ?_
    refine T.thenN ?_
    refine T.seq ?_
    refine T.region ?_
    refine L.move rfl rfl ?_
    refine L.indexS (i := 0) rfl Tryz.underlying9 rfl rfl (by first | rfl | omega | (simp; done)) hc0 ?_
    refine L.convN rfl Tryz.underlying5 Tryz.underlying3 rfl qI ?_
    refine L.assign rfl rfl ?_
    refine L.nil ?_
    refine T.thenN ?_
    refine T.seq ?_
    refine T.seq ?_
    refine T.region ?_
    refine L.move rfl rfl ?_
    refine L.gtI rfl rfl rfl ?_
    refine L.nil ?_
    refine T.thenN ?_
    refine T.cond rfl (fun h22 => ?_) (fun h22 => ?_)
    · try simp only [decide_eq_true_eq, decide_eq_false_iff_not, Bool.not_eq_true', Bool.not_eq_false', Bool.and_eq_true, Bool.or_eq_true] at h22
      refine T.seq ?_
      refine T.region ?_
      refine L.build rfl bu105 (BP.one rfl rfl rfl <| BP.one rfl rfl rfl <| BP.doneE (out := []) rfl) ?_
      refine L.storeA ag105 rfl rfl qL qO qU qW ?_
      refine L.assign rfl rfl ?_
      refine L.nil ?_
      refine T.thenN ?_
      refine T.ret ?_
      refine T.thenR ?_
      exact T.retAT rfl ag105 rfl qN rfl ⟨by rw [num_2 hpe (by rw [← hc]; omega)]; rfl, rfl, rfl⟩ qD qF
    · try simp only [decide_eq_true_eq, decide_eq_false_iff_not, Bool.not_eq_true', Bool.not_eq_false', Bool.and_eq_true, Bool.or_eq_true] at h22
      have hn8 : ¬ 8 < c.toNat := by omega
      refine T.skip ?_
      refine T.thenN ?_
      refine T.seq ?_
      refine T.region ?_
      refine L.loadA rfl ag105 rfl qN ?_
      refine L.move rfl rfl ?_
      refine L.callF rfl (evs.cons rfl <| evs.cons rfl <| evs.nil) qD qS (rbytes_spec (b := (bytB b 1).2) (n := c.toNat) (by omega)) (by rintro u D1 M1 ⟨rfl, rfl, rfl⟩; exact ⟨rfl, _, qA, qF⟩) ?_
      refine L.move rfl rfl ?_
      refine L.extract rfl rfl rfl ?_
      refine L.extract rfl rfl rfl ?_
      refine L.storeA ag105 rfl rfl qL qO qU qW ?_
      refine L.assign rfl rfl ?_
      refine L.nil ?_
      refine T.thenN ?_
      refine T.seq ?_
      refine T.seq ?_
      refine T.region ?_
      first | refine L.field0 rfl fo105_1 rfl ?_ | refine L.field rfl fo105_1 rfl ?_
      refine L.load rfl sc3 rfl qC ?_
      refine L.neI rfl rfl rfl ?_
      refine L.nil ?_
      refine T.thenN ?_
      refine T.cond rfl (fun h32 => ?_) (fun h32 => ?_)
      · try simp only [decide_eq_true_eq, decide_eq_false_iff_not, Bool.not_eq_true', Bool.not_eq_false', Bool.and_eq_true, Bool.or_eq_true] at h32
        refine T.seq ?_
        refine T.region ?_
        refine L.loadA rfl ag105 rfl qN ?_
        refine L.storeA ag105 rfl rfl qL qO qU qW ?_
        refine L.assign rfl rfl ?_
        refine L.nil ?_
        refine T.thenN ?_
        refine T.ret ?_
        refine T.thenR ?_
        exact T.retAT rfl ag105 rfl qN rfl ⟨by rw [num_3 hpe (by rw [← hc]; omega) (by rw [← hc]; exact h32), ← hc]; rfl, rfl, rfl⟩ qD qF
      · try simp only [decide_eq_true_eq, decide_eq_false_iff_not, Bool.not_eq_true', Bool.not_eq_false', Bool.and_eq_true, Bool.or_eq_true] at h32
        have hqe : (bytB (bytB b 1).2 c.toNat).2.err = 0 := Decidable.not_not.1 h32
        have hql := byt_lenN (b := (bytB b 1).2) (n := c.toNat)
        obtain ⟨q, hq⟩ : ∃ q, q = (bytB (bytB b 1).2 c.toNat).1 := ⟨_, rfl⟩
        rw [← hq]
        rw [← hq] at hql
        refine T.skip ?_
        refine T.thenN ?_
        refine T.seq ?_
        refine T.seq ?_
        refine T.cutC (fun K' D' M' => ∃ (w : Bool), (w = true ↔ (q ≠ [] ∧ q.getD 0 0 = 0)) ∧ K' = [(40, .bool w)] ∧ D' = [] ∧ M' = []) (M0 := []) (.cons (t := 1) rfl <| .cons (t := 2) rfl <| .cons (t := 6) rfl <| SubK.nil _) qS ?_ ?_
        · skip
          rcases List.eq_nil_or_concat q with hqn | ⟨qt, qc, hqn⟩
          · skip
            refine T.region ?_
            refine L.move rfl rfl ?_
            refine L.neS rfl rfl rfl ?_
            refine L.move rfl rfl ?_
            refine L.known (t := 36) rfl (show _ = Value.bool false from congrArg Value.bool (by rw [hqn]; rfl)) ?_
            refine L.guardF (dj := 36) (c := false) rfl rfl rfl rfl rfl (by decide) ?_
            refine L.guardF (dj := 36) (c := false) rfl rfl rfl rfl rfl (by decide) ?_
            refine L.guardF (dj := 36) (c := false) rfl rfl rfl rfl rfl (by decide) ?_
            refine L.pickF rfl rfl rfl ?_
            refine L.nil ?_
            refine T.thenN ?_
            exact T.toJoin ⟨_, ⟨(fun h => by cases h), (fun h => absurd hqn h.1)⟩, rfl, rfl, rfl⟩ (.cons (t := 40) rfl <| SubK.nil _) (.cons (t := 1) rfl <| .cons (t := 2) rfl <| .cons (t := 6) rfl <| SubK.nil _) qD qD qF
          · skip
            have hq0 : q[0]? = some (q.getD 0 0) := gd_first (by rw [hqn]; simp)
            refine T.region ?_
            refine L.move rfl rfl ?_
            refine L.neS rfl rfl rfl ?_
            refine L.move rfl rfl ?_
            refine L.known (t := 36) rfl (show _ = Value.bool true from congrArg Value.bool (by rw [hqn]; simp)) ?_
            refine L.guardT (dj := 36) rfl rfl rfl ?_
            refine L.move rfl rfl ?_
            refine L.guardT (dj := 36) rfl rfl rfl ?_
            refine L.indexS (i := 0) rfl Tryz.underlying9 rfl rfl (by first | rfl | omega | (simp; done)) hq0 ?_
            refine L.guardT (dj := 36) rfl rfl rfl ?_
            refine L.eqI rfl rfl rfl ?_
            refine L.pickT rfl rfl rfl ?_
            refine L.nil ?_
            refine T.thenN ?_
            exact T.toJoin ⟨_, (zero_arm (by rw [hqn]; simp) rfl), rfl, rfl, rfl⟩ (.cons (t := 40) rfl <| SubK.nil _) (.cons (t := 1) rfl <| .cons (t := 2) rfl <| .cons (t := 6) rfl <| SubK.nil _) qD qD qF
        rintro _ _ _ ⟨w, hw, rfl, rfl, rfl⟩
        refine T.norm3 qA qA qA ?_
        refine T.thenN ?_
        refine T.cond rfl (fun h40 => ?_) (fun h40 => ?_)
        · try simp only [decide_eq_true_eq, decide_eq_false_iff_not, Bool.not_eq_true', Bool.not_eq_false', Bool.and_eq_true, Bool.or_eq_true] at h40
          refine T.seq ?_
          refine T.region ?_
          refine L.build rfl bu105 (BP.one rfl rfl rfl <| BP.one rfl rfl rfl <| BP.doneE (out := []) rfl) ?_
          refine L.storeA ag105 rfl rfl qL qO qU qW ?_
          refine L.assign rfl rfl ?_
          refine L.nil ?_
          refine T.thenN ?_
          refine T.ret ?_
          refine T.thenR ?_
          exact T.retAT rfl ag105 rfl qN rfl ⟨by rw [num_4 hpe (by rw [← hc]; exact hn8) (by rw [← hc]; exact hqe) (by rw [← hc, ← hq]; exact hw.1 h40)]; rfl, rfl, rfl⟩ qD qF
        · try simp only [decide_eq_true_eq, decide_eq_false_iff_not, Bool.not_eq_true', Bool.not_eq_false', Bool.and_eq_true, Bool.or_eq_true] at h40
          have hz0 : ¬ (q ≠ [] ∧ q.getD 0 0 = 0) := fun e => by rw [hw.2 e] at h40; cases h40
          refine T.skip ?_
          refine T.thenN ?_
          refine T.seq ?_
          refine T.region ?_
          refine L.assign rfl rfl ?_
          refine L.nil ?_
          refine T.thenN ?_
          refine T.seq ?_
          refine T.seq ?_
          refine T.region ?_
          refine L.assign rfl rfl ?_
          refine L.nil ?_
          refine T.thenN ?_
          refine T.block ?_
          refine T.loop (fun K' D' M' μ => ∃ (i v : Nat), (i ≤ q.length ∧ v = beV (q.take i)) ∧ K' = [(8, .int .i64 i), (7, .int .u64 (v : Int))] ∧ D' = [] ∧ M' = [] ∧ μ = q.length - i) (.cons (t := 1) rfl <| .cons (t := 2) rfl <| .cons (t := 6) rfl <| SubK.nil _) (⟨0, 0, ⟨by omega, rfl⟩, rfl, rfl, rfl, rfl⟩) (.cons (t := 8) rfl <| .cons (t := 7) rfl <| SubK.nil _) qD qS ?_
          rintro K1 D1 M1 m1 ⟨i, v, ⟨hi, hv⟩, rfl, rfl, rfl, rfl⟩
          refine T.norm3 qA qA qA ?_
          refine T.seq ?_
          refine T.seq ?_
          refine T.region ?_
          refine L.move rfl rfl ?_
          refine L.move rfl rfl ?_
          refine L.lenStr rfl Tryz.underlying9 rfl ?_
          refine L.ltI rfl rfl rfl ?_
          refine L.nil ?_
          refine T.thenN ?_
          refine T.cond rfl (fun h45 => ?_) (fun h45 => ?_)
          · try simp only [decide_eq_true_eq, decide_eq_false_iff_not, Bool.not_eq_true', Bool.not_eq_false', Bool.and_eq_true, Bool.or_eq_true] at h45
            refine T.skip ?_
            refine T.thenN ?_
            refine T.seq ?_
            refine T.block ?_
            have hqi : q[i]? = some (gd q i) := gd_get (by omega)
            have hdl := (gd q i).toNat_lt
            have hv56 : v < 72057594037927936 := by rw [hv]; exact beV_8 (k := i) (by rw [List.length_take]; omega) (by omega)
            refine T.region ?_
            refine L.move rfl rfl ?_
            refine L.mulU rfl rfl rfl qI ?_
            refine L.move rfl rfl ?_
            refine L.move rfl rfl ?_
            refine L.indexS (i := i) rfl Tryz.underlying9 rfl rfl (by first | rfl | omega | (simp; done)) (by first | assumption | exact gd_get qL) ?_
            refine L.convU rfl Tryz.underlying5 Tryz.underlying117 rfl qI ?_
            refine L.addU rfl rfl rfl qI ?_
            rw [show ((v : Int) * 256 + (((gd q i).toNat : Nat) : Int)) = ((v * 256 + (gd q i).toNat : Nat) : Int) by omega]
            refine L.assign rfl rfl ?_
            refine L.nil ?_
            refine T.blkN ?_
            refine T.thenN ?_
            refine T.region ?_
            refine L.move rfl rfl ?_
            refine L.addN rfl rfl rfl (by omega) ?_
            refine L.assign rfl rfl ?_
            refine L.nil ?_
            refine T.thenN ?_
            exact T.back ⟨i + 1, _, ⟨by omega, by rw [hv, ← take_snoc hqi, beV_snoc]⟩, rfl, rfl, rfl, rfl⟩ qI (.cons (t := 8) rfl <| .cons (t := 7) rfl <| SubK.nil _) (.cons (t := 1) rfl <| .cons (t := 2) rfl <| .cons (t := 6) rfl <| SubK.nil _) qD qD qF
          · try simp only [decide_eq_true_eq, decide_eq_false_iff_not, Bool.not_eq_true', Bool.not_eq_false', Bool.and_eq_true, Bool.or_eq_true] at h45
            refine T.exit ?_
            refine T.thenX ?_
            refine T.thenX ?_
            refine T.blkX ?_
            refine T.thenN ?_
            refine T.seq ?_
            refine T.region ?_
            refine L.loadA rfl ag105 rfl qN ?_
            refine L.move rfl rfl ?_
            refine L.storeA ag105 rfl rfl qL qO qU qW ?_
            refine L.assign rfl rfl ?_
            refine L.nil ?_
            refine T.thenN ?_
            refine T.ret ?_
            exact T.retAT rfl ag105 rfl qN rfl ⟨by rw [num_5 hpe (by rw [← hc]; exact hn8) (by rw [← hc]; exact hqe) (by rw [← hc, ← hq]; exact hz0), ← hc, ← hq, hv, List.take_of_length_le (by omega)], rfl, rfl⟩ qD qF
set_option maxHeartbeats 400000 in
theorem rint_spec {b : Bl} {top : Nat} (ht : top ≤ 1000000000) : Spec Tryz.prog 54 [.agg (blR b).toArray, .int .i64 (top : Int)] [] [] (fun v D' M' => v = .tuple #[.agg (blR (intR b top).2).toArray, .int .i64 ((intR b top).1 : Int)] ∧ D' = [] ∧ M' = []) := by
  refine Spec.intro (n := 25) Tryz.func54 rfl rfl (by decide) (Nat.le_of_ble_eq_true rfl) rfl (fun _ => qA) (fun _ => qA) ?_
  intro σ D M
  have hn64 := num_64 b
  refine T.seq ?_
  refine T.region ?_
  refine L.box rfl rfl rfl (fun b2 => ?_)
  refine L.alloc rfl ze105 (fun b4 => ?_)
  refine L.assign rfl rfl ?_
  refine L.nil ?_
  refine T.thenN ?_
  refine T.seq ?_
  refine T.region ?_
  refine L.loadA rfl ag105 rfl qN ?_
  refine L.callF rfl (evs.cons rfl <| evs.nil) qD qS (rtnum_spec (b := b)) (by rintro u D1 M1 ⟨rfl, rfl, rfl⟩; exact ⟨rfl, _, qA, qF⟩) ?_
  refine L.move rfl rfl ?_
  refine L.extract rfl rfl rfl ?_
  refine L.extract rfl rfl rfl ?_
  refine L.storeA ag105 rfl rfl qL qO qU qW ?_
  refine L.assign rfl rfl ?_
  refine L.nil ?_
  refine T.thenN ?_
  refine T.seq ?_
  refine T.seq ?_
  refine T.region ?_
  first | refine L.field0 rfl fo105_1 rfl ?_ | refine L.field rfl fo105_1 rfl ?_
  refine L.load rfl sc3 rfl qC ?_
  refine L.neI rfl rfl rfl ?_
  refine L.nil ?_
  refine T.thenN ?_
  refine T.cond rfl (fun h14 => ?_) (fun h14 => ?_)
  · try simp only [decide_eq_true_eq, decide_eq_false_iff_not, Bool.not_eq_true', Bool.not_eq_false', Bool.and_eq_true, Bool.or_eq_true] at h14
    refine T.seq ?_
    refine T.region ?_
    refine L.loadA rfl ag105 rfl qN ?_
    refine L.storeA ag105 rfl rfl qL qO qU qW ?_
    refine L.assign rfl rfl ?_
    refine L.nil ?_
    refine T.thenN ?_
    refine T.ret ?_
    refine T.thenR ?_
    exact T.retAT rfl ag105 rfl qN rfl ⟨by rw [int_1 h14]; rfl, rfl, rfl⟩ qD qF
  · try simp only [decide_eq_true_eq, decide_eq_false_iff_not, Bool.not_eq_true', Bool.not_eq_false', Bool.and_eq_true, Bool.or_eq_true] at h14
    refine T.skip ?_
    refine T.thenN ?_
    refine T.seq ?_
    refine T.seq ?_
    refine T.region ?_
    refine L.move rfl rfl ?_
    refine L.move rfl rfl ?_
    refine L.maxI rfl rfl rfl ?_
    rw [show max (top : Int) 0 = (top : Int) by omega]
    refine L.convU rfl Tryz.underlying3 Tryz.underlying117 rfl qI ?_
    refine L.gtI rfl rfl rfl ?_
    refine L.nil ?_
    refine T.thenN ?_
    refine T.cond rfl (fun h20 => ?_) (fun h20 => ?_)
    · try simp only [decide_eq_true_eq, decide_eq_false_iff_not, Bool.not_eq_true', Bool.not_eq_false', Bool.and_eq_true, Bool.or_eq_true] at h20
      refine T.seq ?_
      refine T.region ?_
      refine L.build rfl bu105 (BP.one rfl rfl rfl <| BP.one rfl rfl rfl <| BP.doneE (out := []) rfl) ?_
      refine L.storeA ag105 rfl rfl qL qO qU qW ?_
      refine L.assign rfl rfl ?_
      refine L.nil ?_
      refine T.thenN ?_
      refine T.ret ?_
      refine T.thenR ?_
      exact T.retAT rfl ag105 rfl qN rfl ⟨by rw [int_2 (Decidable.not_not.1 h14) (by omega)]; rfl, rfl, rfl⟩ qD qF
    · try simp only [decide_eq_true_eq, decide_eq_false_iff_not, Bool.not_eq_true', Bool.not_eq_false', Bool.and_eq_true, Bool.or_eq_true] at h20
      refine T.skip ?_
      refine T.thenN ?_
      refine T.seq ?_
      refine T.region ?_
      refine L.loadA rfl ag105 rfl qN ?_
      refine L.move rfl rfl ?_
      refine L.convN rfl Tryz.underlying117 Tryz.underlying3 rfl qI ?_
      refine L.storeA ag105 rfl rfl qL qO qU qW ?_
      refine L.assign rfl rfl ?_
      refine L.nil ?_
      refine T.thenN ?_
      refine T.ret ?_
      exact T.retAT rfl ag105 rfl qN rfl ⟨by rw [int_3 (Decidable.not_not.1 h14) (by omega)], rfl, rfl⟩ qD qF
set_option maxHeartbeats 400000 in
theorem rclose_spec {b : Bl}  : Spec Tryz.prog 56 [.agg (blR b).toArray] [] [] (fun v D' M' => v = .int .i64 (closeE b) ∧ D' = [] ∧ M' = []) := by
  refine Spec.intro (n := 13) Tryz.func56 rfl rfl (by decide) (Nat.le_of_ble_eq_true rfl) rfl (fun _ => qA) (fun _ => qA) ?_
  intro σ D M
  refine T.seq ?_
  refine T.region ?_
  refine L.box rfl rfl rfl (fun b1 => ?_)
  refine L.assign rfl rfl ?_
  refine L.nil ?_
  refine T.thenN ?_
  refine T.seq ?_
  refine T.seq ?_
  refine T.cutC (fun K' D' M' => ∃ (w : Bool), (w = true ↔ (b.err = 0 ∧ b.left ≠ [])) ∧ K' = [(10, .bool w)] ∧ D' = [] ∧ M' = []) (M0 := []) (.cons (t := 1) rfl <| SubK.nil _) qS ?_ ?_
  · skip
    by_cases hne : b.err = 0
    · skip
      refine T.region ?_
      first | refine L.field0 rfl fo105_1 rfl ?_ | refine L.field rfl fo105_1 rfl ?_
      refine L.load rfl sc3 rfl qC ?_
      refine L.eqI rfl rfl rfl ?_
      refine L.move rfl rfl ?_
      refine L.known (t := 6) rfl (show _ = Value.bool true from congrArg Value.bool (decide_eq_true hne)) ?_
      refine L.guardT (dj := 6) rfl rfl rfl ?_
      first | refine L.field0 rfl fo105_0 rfl ?_ | refine L.field rfl fo105_0 rfl ?_
      refine L.guardT (dj := 6) rfl rfl rfl ?_
      refine L.load rfl sc9 rfl qC ?_
      refine L.guardT (dj := 6) rfl rfl rfl ?_
      refine L.neS rfl rfl rfl ?_
      refine L.pickT rfl rfl rfl ?_
      refine L.nil ?_
      refine T.thenN ?_
      exact T.toJoin ⟨_, (by simp_all), rfl, rfl, rfl⟩ (.cons (t := 10) rfl <| SubK.nil _) (.cons (t := 1) rfl <| SubK.nil _) qD qD qF
    · skip
      refine T.region ?_
      first | refine L.field0 rfl fo105_1 rfl ?_ | refine L.field rfl fo105_1 rfl ?_
      refine L.load rfl sc3 rfl qC ?_
      refine L.eqI rfl rfl rfl ?_
      refine L.move rfl rfl ?_
      refine L.known (t := 6) rfl (show _ = Value.bool false from congrArg Value.bool (decide_eq_false hne)) ?_
      refine L.guardF (dj := 6) (c := false) rfl rfl rfl rfl rfl (by decide) ?_
      refine L.guardF (dj := 6) (c := false) rfl rfl rfl rfl rfl (by decide) ?_
      refine L.guardF (dj := 6) (c := false) rfl rfl rfl rfl rfl (by decide) ?_
      refine L.pickF rfl rfl rfl ?_
      refine L.nil ?_
      refine T.thenN ?_
      exact T.toJoin ⟨_, (by simp_all), rfl, rfl, rfl⟩ (.cons (t := 10) rfl <| SubK.nil _) (.cons (t := 1) rfl <| SubK.nil _) qD qD qF
  rintro _ _ _ ⟨w, hw, rfl, rfl, rfl⟩
  refine T.norm3 qA qA qA ?_
  refine T.thenN ?_
  refine T.cond rfl (fun h10 => ?_) (fun h10 => ?_)
  · try simp only [decide_eq_true_eq, decide_eq_false_iff_not, Bool.not_eq_true', Bool.not_eq_false', Bool.and_eq_true, Bool.or_eq_true] at h10
    refine T.seq ?_
    refine T.region ?_
    refine L.assign rfl rfl ?_
    refine L.nil ?_
    refine T.thenN ?_
    refine T.ret ?_
    refine T.thenR ?_
    exact T.ret1 rfl rfl ⟨congrArg (Value.int .i64) (by unfold closeE; rw [if_pos (hw.1 h10)]), rfl, rfl⟩ qD qF
  · try simp only [decide_eq_true_eq, decide_eq_false_iff_not, Bool.not_eq_true', Bool.not_eq_false', Bool.and_eq_true, Bool.or_eq_true] at h10
    refine T.skip ?_
    refine T.thenN ?_
    refine T.seq ?_
    refine T.region ?_
    first | refine L.field0 rfl fo105_1 rfl ?_ | refine L.field rfl fo105_1 rfl ?_
    refine L.load rfl sc3 rfl qC ?_
    refine L.assign rfl rfl ?_
    refine L.nil ?_
    refine T.thenN ?_
    refine T.ret ?_
    exact T.ret1 rfl rfl ⟨congrArg (Value.int .i64) (by unfold closeE; rw [if_neg (fun e => by rw [hw.2 e] at h10; cases h10)]), rfl, rfl⟩ qD qF
end Cv
