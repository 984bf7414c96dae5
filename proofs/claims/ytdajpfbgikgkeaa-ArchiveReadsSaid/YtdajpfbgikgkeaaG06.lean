/-
  The walks: bytes read, as the document tells it.
-/
import Derived.Test.YtdajpfbgikgkeaaF06
import Derived.Test.YtdajpfbgikgkeaaProg
import Derived.KernelRfl
set_option linter.unusedVariables false
set_option linter.unusedSimpArgs false
set_option linter.unusedSectionVars false
set_option maxRecDepth 10000
namespace Cv
open Go Go.Proofs
theorem zv99 : ∀ w, (zeroValue 99).run Try.prog w = .ok (Value.agg #[S [], Value.int .i64 0]) w := fun w => by kernel_rfl
theorem ze99 : Ze Try.prog 99 [S [], Value.int .i64 0] := ⟨_, rfl, zv99⟩
theorem fo99_1 : Fo Try.prog 99 1 1 := fun a w => by kernel_rfl
theorem ag99 : Ag Try.prog 99 2 := fun w => ⟨by kernel_rfl, by kernel_rfl⟩
theorem fo99_0 : Fo Try.prog 99 0 0 := fun a w => by kernel_rfl
theorem bu99 : Bu Try.prog 99 [S [], Value.int .i64 0] (fun (i : Nat) => ([(0, 1), (1, 1)] : List (Nat × Nat))[i]?) := bu_of Try.underlying99 zv99 rfl (fun w => by kernel_rfl)
set_option maxHeartbeats 400000 in
theorem rbytes_spec {b : Bl} {n : Nat} (hn : n ≤ 1000000000) : Spec Try.prog 80 [.agg (blR b).toArray, .int .i64 (n : Int)] [] [] (fun v D' M' => v = .tuple #[.agg (blR (bytB b n).2).toArray, S (bytB b n).1] ∧ D' = [] ∧ M' = []) := by
  refine Spec.intro (n := 29) Try.func80 rfl rfl (by decide) (Nat.le_of_ble_eq_true rfl) rfl (fun _ => qA) (fun _ => qA) ?_
  intro σ D M
  refine T.seq ?_
  refine T.region ?_
  refine L.box rfl rfl rfl (fun b2 => ?_)
  refine L.alloc rfl ze99 (fun b4 => ?_)
  refine L.assign rfl rfl ?_
  refine L.nil ?_
  refine T.freeze (A := cl b2 99 (blR b)) qP ?_
  refine T.thenN ?_
  refine T.seq ?_
  refine T.seq ?_
  refine T.region ?_
  first | refine L.field0 rfl fo99_1 rfl ?_ | refine L.field rfl fo99_1 rfl ?_
  refine L.load rfl sc3 rfl qC ?_
  refine L.neI rfl rfl rfl ?_
  refine L.nil ?_
  refine T.thenN ?_
  refine T.cond rfl (fun h8 => ?_) (fun h8 => ?_)
  · try simp only [decide_eq_true_eq, decide_eq_false_iff_not, Bool.not_eq_true', Bool.not_eq_false', Bool.and_eq_true, Bool.or_eq_true] at h8
    refine T.seq ?_
    refine T.region ?_
    refine L.loadA rfl ag99 rfl qN ?_
    refine L.storeA ag99 rfl rfl qL qO qU qW ?_
    refine L.assign rfl rfl ?_
    refine L.nil ?_
    refine T.thenN ?_
    refine T.ret ?_
    refine T.thenR ?_
    have hbe := byt_bad (b := b) (n := n) h8
    exact T.retAT rfl ag99 rfl qN rfl ⟨by rw [hbe]; rfl, rfl, rfl⟩ qD qF
  · try simp only [decide_eq_true_eq, decide_eq_false_iff_not, Bool.not_eq_true', Bool.not_eq_false', Bool.and_eq_true, Bool.or_eq_true] at h8
    refine T.skip ?_
    refine T.thenN ?_
    refine T.seq ?_
    refine T.seq ?_
    refine T.region ?_
    refine L.move rfl rfl ?_
    refine L.ltI rfl rfl rfl ?_
    refine L.move rfl rfl ?_
    refine L.known (t := 12) rfl (show _ = Value.bool false from congrArg Value.bool (decide_eq_false (by omega))) ?_
    refine L.guardT (dj := 12) rfl rfl rfl ?_
    refine L.move rfl rfl ?_
    refine L.guardT (dj := 12) rfl rfl rfl ?_
    first | refine L.field0 rfl fo99_0 rfl ?_ | refine L.field rfl fo99_0 rfl ?_
    refine L.guardT (dj := 12) rfl rfl rfl ?_
    refine L.load rfl sc9 rfl qC ?_
    refine L.guardT (dj := 12) rfl rfl rfl ?_
    refine L.lenStr rfl Try.underlying9 rfl ?_
    refine L.guardT (dj := 12) rfl rfl rfl ?_
    refine L.gtI rfl rfl rfl ?_
    refine L.pickF rfl rfl rfl ?_
    refine L.nil ?_
    refine T.thenN ?_
    refine T.cond rfl (fun h18 => ?_) (fun h18 => ?_)
    · try simp only [decide_eq_true_eq, decide_eq_false_iff_not, Bool.not_eq_true', Bool.not_eq_false', Bool.and_eq_true, Bool.or_eq_true] at h18
      refine T.seq ?_
      refine T.region ?_
      refine L.build rfl bu99 (BP.one rfl rfl rfl <| BP.one rfl rfl rfl <| BP.doneE (out := []) rfl) ?_
      refine L.storeA ag99 rfl rfl qL qO qU qW ?_
      refine L.assign rfl rfl ?_
      refine L.nil ?_
      refine T.thenN ?_
      refine T.ret ?_
      refine T.thenR ?_
      have hbe := byt_out (b := b) (n := n) (by omega) (by omega)
      exact T.retAT rfl ag99 rfl qN rfl ⟨by rw [hbe]; rfl, rfl, rfl⟩ qD qF
    · try simp only [decide_eq_true_eq, decide_eq_false_iff_not, Bool.not_eq_true', Bool.not_eq_false', Bool.and_eq_true, Bool.or_eq_true] at h18
      have hbe := byt_ok (b := b) (n := n) (by omega) (by omega)
      refine T.skip ?_
      refine T.thenN ?_
      refine T.seq ?_
      refine T.regionA (clsL [1, 1, 1, 1, 1, 1, 1, 1, 1, 2, 1]) (by kernel_rfl) ?_
      refine A.takeP (i := 0) rfl rfl rfl rfl (by kernel_rfl) (by kernel_rfl) (by kernel_rfl) rfl qD ?_
      first | refine L.field0 rfl fo99_0 rfl ?_ | refine L.field rfl fo99_0 rfl ?_
      refine A.took ?_
      refine A.takeP (i := 1) rfl rfl rfl rfl (by kernel_rfl) (by kernel_rfl) (by kernel_rfl) rfl qD ?_
      refine L.load rfl sc9 rfl qC ?_
      refine A.took ?_
      refine A.takeP (i := 2) rfl rfl rfl rfl (by kernel_rfl) (by kernel_rfl) (by kernel_rfl) rfl qD ?_
      refine L.move rfl rfl ?_
      refine A.took ?_
      refine A.takeP (i := 3) rfl rfl rfl rfl (by kernel_rfl) (by kernel_rfl) (by kernel_rfl) rfl qD ?_
      refine L.sliceS (a := n) (b := _) rfl Try.underlying9 rfl ⟨_, (by first | rfl | (congr 2; omega))⟩ rfl qI qI ?_
      refine A.took ?_
      refine A.takeP (i := 4) rfl rfl rfl rfl (by kernel_rfl) (by kernel_rfl) (by kernel_rfl) rfl qD ?_
      refine L.build rfl bu99 (BP.one rfl rfl rfl <| BP.one rfl rfl rfl <| BP.doneE (out := []) rfl) ?_
      refine A.took ?_
      refine A.takeP (i := 5) rfl rfl rfl rfl (by kernel_rfl) (by kernel_rfl) (by kernel_rfl) rfl qD ?_
      first | refine L.field0 rfl fo99_0 rfl ?_ | refine L.field rfl fo99_0 rfl ?_
      refine A.took ?_
      refine A.takeP (i := 6) rfl rfl rfl rfl (by kernel_rfl) (by kernel_rfl) (by kernel_rfl) rfl qD ?_
      refine L.load rfl sc9 rfl qC ?_
      refine A.took ?_
      refine A.takeP (i := 7) rfl rfl rfl rfl (by kernel_rfl) (by kernel_rfl) (by kernel_rfl) rfl qD ?_
      refine L.move rfl rfl ?_
      refine A.took ?_
      refine A.takeP (i := 8) rfl rfl rfl rfl (by kernel_rfl) (by kernel_rfl) (by kernel_rfl) rfl qD ?_
      refine L.sliceS (a := 0) (b := n) rfl Try.underlying9 rfl rfl ⟨_, (by first | rfl | (congr 2; omega))⟩ qI qI ?_
      refine A.took ?_
      refine A.branch (is := [9]) (by kernel_rfl) (by decide) (Each.cons rfl ?_ <| Each.nil) 
      refine L.storeA ag99 rfl rfl qL qO qU qW ?_
      refine A.backT rfl qD ?_
      refine A.takeP (i := 10) rfl rfl rfl rfl (by kernel_rfl) (by kernel_rfl) (by kernel_rfl) rfl qD ?_
      refine L.assign rfl rfl ?_
      refine A.took ?_
      refine A.done (by kernel_rfl) ?_
      refine T.thenN ?_
      refine T.ret ?_
      exact T.retAT rfl ag99 rfl qN rfl ⟨by rw [hbe]; simp, rfl, rfl⟩ qD qF
set_option maxHeartbeats 400000 in
theorem rtnum_spec {b : Bl}  : Spec Try.prog 81 [.agg (blR b).toArray] [] [] (fun v D' M' => v = .tuple #[.agg (blR (numR b).2).toArray, .int .u64 ((numR b).1 : Int)] ∧ D' = [] ∧ M' = []) := by
  refine Spec.intro (n := 57) Try.func81 rfl rfl (by decide) (Nat.le_of_ble_eq_true rfl) rfl (fun _ => qA) (fun _ => qA) ?_
  intro σ D M
  refine T.seq ?_
  refine T.region ?_
  refine L.box rfl rfl rfl (fun b1 => ?_)
  refine L.alloc rfl ze99 (fun b2 => ?_)
  refine L.assign rfl rfl ?_
  refine L.nil ?_
  refine T.thenN ?_
  refine T.seq ?_
  refine T.region ?_
  refine L.loadA rfl ag99 rfl qN ?_
  refine L.callF rfl (evs.cons rfl <| evs.cons rfl <| evs.nil) qD qS (rbytes_spec (b := b) (n := 1) (by decide)) (by rintro u D1 M1 ⟨rfl, rfl, rfl⟩; exact ⟨rfl, _, qA, qF⟩) ?_
  refine L.move rfl rfl ?_
  refine L.extract rfl rfl rfl ?_
  refine L.extract rfl rfl rfl ?_
  refine L.storeA ag99 rfl rfl qL qO qU qW ?_
  refine L.assign rfl rfl ?_
  refine L.nil ?_
  refine T.thenN ?_
  refine T.seq ?_
  refine T.seq ?_
  refine T.region ?_
  first | refine L.field0 rfl fo99_1 rfl ?_ | refine L.field rfl fo99_1 rfl ?_
  refine L.load rfl sc3 rfl qC ?_
  refine L.neI rfl rfl rfl ?_
  refine L.nil ?_
  refine T.thenN ?_
  refine T.cond rfl (fun h16 => ?_) (fun h16 => ?_)
  · try simp only [decide_eq_true_eq, decide_eq_false_iff_not, Bool.not_eq_true', Bool.not_eq_false', Bool.and_eq_true, Bool.or_eq_true] at h16
    refine T.seq ?_
    refine T.region ?_
    refine L.loadA rfl ag99 rfl qN ?_
    refine L.storeA ag99 rfl rfl qL qO qU qW ?_
    refine L.assign rfl rfl ?_
    refine L.nil ?_
    refine T.thenN ?_
    refine T.ret ?_
    refine T.thenR ?_
    exact T.retAT rfl ag99 rfl qN rfl ⟨by rw [num_1 h16]; rfl, rfl, rfl⟩ qD qF
  · try simp only [decide_eq_true_eq, decide_eq_false_iff_not, Bool.not_eq_true', Bool.not_eq_false', Bool.and_eq_true, Bool.or_eq_true] at h16
    have hpe : (bytB b 1).2.err = 0 := Decidable.not_not.1 h16
    have hpl := (byt_len (b := b) (n := 1) (by decide) hpe).1
    obtain ⟨c, hc⟩ : ∃ c, c = (bytB b 1).1.getD 0 0 := ⟨_, rfl⟩
    have hc0 : (bytB b 1).1[0]? = some c := by rw [hc, List.getD_eq_getElem?_getD, List.getElem?_eq_getElem (by omega)]; rfl
    have hcl := c.toNat_lt
    rw [show ((1 : Nat) : Int) = 1 from rfl]
    refine T.skip ?_
    refine T.thenN ?_
    refine T.seq ?_
    refine T.region ?_
    refine L.move rfl rfl ?_
    refine L.indexS (i := 0) rfl Try.underlying9 rfl rfl (by first | rfl | omega | (simp; done)) hc0 ?_
    refine L.convN rfl Try.underlying5 Try.underlying3 rfl qI ?_
    refine L.assign rfl rfl ?_
    refine L.nil ?_
    refine T.thenN ?_
    refine T.seq ?_
    refine T.seq ?_
    refine T.region ?_
    refine L.move rfl rfl ?_
    refine L.gtI rfl rfl rfl ?_
    refine L.nil ?_
    refine T.thenN ?_
    refine T.cond rfl (fun h22 => ?_) (fun h22 => ?_)
    · try simp only [decide_eq_true_eq, decide_eq_false_iff_not, Bool.not_eq_true', Bool.not_eq_false', Bool.and_eq_true, Bool.or_eq_true] at h22
      refine T.seq ?_
      refine T.region ?_
      refine L.build rfl bu99 (BP.one rfl rfl rfl <| BP.one rfl rfl rfl <| BP.doneE (out := []) rfl) ?_
      refine L.storeA ag99 rfl rfl qL qO qU qW ?_
      refine L.assign rfl rfl ?_
      refine L.nil ?_
      refine T.thenN ?_
      refine T.ret ?_
      refine T.thenR ?_
      exact T.retAT rfl ag99 rfl qN rfl ⟨by rw [num_2 hpe (by rw [← hc]; omega)]; rfl, rfl, rfl⟩ qD qF
    · try simp only [decide_eq_true_eq, decide_eq_false_iff_not, Bool.not_eq_true', Bool.not_eq_false', Bool.and_eq_true, Bool.or_eq_true] at h22
      have hn8 : ¬ 8 < c.toNat := by omega
      refine T.skip ?_
      refine T.thenN ?_
      refine T.seq ?_
      refine T.region ?_
      refine L.loadA rfl ag99 rfl qN ?_
      refine L.move rfl rfl ?_
      refine L.callF rfl (evs.cons rfl <| evs.cons rfl <| evs.nil) qD qS (rbytes_spec (b := (bytB b 1).2) (n := c.toNat) (by omega)) (by rintro u D1 M1 ⟨rfl, rfl, rfl⟩; exact ⟨rfl, _, qA, qF⟩) ?_
      refine L.move rfl rfl ?_
      refine L.extract rfl rfl rfl ?_
      refine L.extract rfl rfl rfl ?_
      refine L.storeA ag99 rfl rfl qL qO qU qW ?_
      refine L.assign rfl rfl ?_
      refine L.nil ?_
      refine T.thenN ?_
      refine T.seq ?_
      refine T.seq ?_
      refine T.region ?_
      first | refine L.field0 rfl fo99_1 rfl ?_ | refine L.field rfl fo99_1 rfl ?_
      refine L.load rfl sc3 rfl qC ?_
      refine L.neI rfl rfl rfl ?_
      refine L.nil ?_
      refine T.thenN ?_
      refine T.cond rfl (fun h32 => ?_) (fun h32 => ?_)
      · try simp only [decide_eq_true_eq, decide_eq_false_iff_not, Bool.not_eq_true', Bool.not_eq_false', Bool.and_eq_true, Bool.or_eq_true] at h32
        refine T.seq ?_
        refine T.region ?_
        refine L.loadA rfl ag99 rfl qN ?_
        refine L.storeA ag99 rfl rfl qL qO qU qW ?_
        refine L.assign rfl rfl ?_
        refine L.nil ?_
        refine T.thenN ?_
        refine T.ret ?_
        refine T.thenR ?_
        exact T.retAT rfl ag99 rfl qN rfl ⟨by rw [num_3 hpe (by rw [← hc]; omega) (by rw [← hc]; exact h32), ← hc]; rfl, rfl, rfl⟩ qD qF
      · try simp only [decide_eq_true_eq, decide_eq_false_iff_not, Bool.not_eq_true', Bool.not_eq_false', Bool.and_eq_true, Bool.or_eq_true] at h32
        have hqe : (bytB (bytB b 1).2 c.toNat).2.err = 0 := Decidable.not_not.1 h32
        have hql := byt_lenN (b := (bytB b 1).2) (n := c.toNat)
        obtain ⟨q, hq⟩ : ∃ q, q = (bytB (bytB b 1).2 c.toNat).1 := ⟨_, rfl⟩
        rw [← hq]
        rw [← hq] at hql
        refine T.skip ?_
        refine T.thenN ?_
        refine T.seq ?_
        refine T.seq ?_
        refine T.cutC (fun K' D' M' => ∃ (w : Bool), (w = true ↔ (q ≠ [] ∧ q.getD 0 0 = 0)) ∧ K' = [(40, .bool w)] ∧ D' = [] ∧ M' = []) (M0 := []) (.cons (t := 1) rfl <| .cons (t := 2) rfl <| .cons (t := 6) rfl <| SubK.nil _) qS ?_ ?_
        · skip
          rcases List.eq_nil_or_concat q with hqn | ⟨qt, qc, hqn⟩
          · skip
            refine T.region ?_
            refine L.move rfl rfl ?_
            refine L.neS rfl rfl rfl ?_
            refine L.move rfl rfl ?_
            refine L.known (t := 36) rfl (show _ = Value.bool false from congrArg Value.bool (by rw [hqn]; rfl)) ?_
            refine L.guardF (dj := 36) (c := false) rfl rfl rfl rfl rfl (by decide) ?_
            refine L.guardF (dj := 36) (c := false) rfl rfl rfl rfl rfl (by decide) ?_
            refine L.guardF (dj := 36) (c := false) rfl rfl rfl rfl rfl (by decide) ?_
            refine L.pickF rfl rfl rfl ?_
            refine L.nil ?_
            refine T.thenN ?_
            exact T.toJoin ⟨_, ⟨(fun h => by cases h), (fun h => absurd hqn h.1)⟩, rfl, rfl, rfl⟩ (.cons (t := 40) rfl <| SubK.nil _) (.cons (t := 1) rfl <| .cons (t := 2) rfl <| .cons (t := 6) rfl <| SubK.nil _) qD qD qF
          · skip
            have hq0 : q[0]? = some (q.getD 0 0) := gd_first (by rw [hqn]; simp)
            refine T.region ?_
            refine L.move rfl rfl ?_
            refine L.neS rfl rfl rfl ?_
            refine L.move rfl rfl ?_
            refine L.known (t := 36) rfl (show _ = Value.bool true from congrArg Value.bool (by rw [hqn]; simp)) ?_
            refine L.guardT (dj := 36) rfl rfl rfl ?_
            refine L.move rfl rfl ?_
            refine L.guardT (dj := 36) rfl rfl rfl ?_
            refine L.indexS (i := 0) rfl Try.underlying9 rfl rfl (by first | rfl | omega | (simp; done)) hq0 ?_
            refine L.guardT (dj := 36) rfl rfl rfl ?_
            refine L.eqI rfl rfl rfl ?_
            refine L.pickT rfl rfl rfl ?_
            refine L.nil ?_
            refine T.thenN ?_
            exact T.toJoin ⟨_, (zero_arm (by rw [hqn]; simp) rfl), rfl, rfl, rfl⟩ (.cons (t := 40) rfl <| SubK.nil _) (.cons (t := 1) rfl <| .cons (t := 2) rfl <| .cons (t := 6) rfl <| SubK.nil _) qD qD qF
        rintro _ _ _ ⟨w, hw, rfl, rfl, rfl⟩
        refine T.norm3 qA qA qA ?_
        refine T.thenN ?_
        refine T.cond rfl (fun h40 => ?_) (fun h40 => ?_)
        · try simp only [decide_eq_true_eq, decide_eq_false_iff_not, Bool.not_eq_true', Bool.not_eq_false', Bool.and_eq_true, Bool.or_eq_true] at h40
          refine T.seq ?_
          refine T.region ?_
          refine L.build rfl bu99 (BP.one rfl rfl rfl <| BP.one rfl rfl rfl <| BP.doneE (out := []) rfl) ?_
          refine L.storeA ag99 rfl rfl qL qO qU qW ?_
          refine L.assign rfl rfl ?_
          refine L.nil ?_
          refine T.thenN ?_
          refine T.ret ?_
          refine T.thenR ?_
          exact T.retAT rfl ag99 rfl qN rfl ⟨by rw [num_4 hpe (by rw [← hc]; exact hn8) (by rw [← hc]; exact hqe) (by rw [← hc, ← hq]; exact hw.1 h40)]; rfl, rfl, rfl⟩ qD qF
        · try simp only [decide_eq_true_eq, decide_eq_false_iff_not, Bool.not_eq_true', Bool.not_eq_false', Bool.and_eq_true, Bool.or_eq_true] at h40
          have hz0 : ¬ (q ≠ [] ∧ q.getD 0 0 = 0) := fun e => by rw [hw.2 e] at h40; cases h40
          refine T.skip ?_
          refine T.thenN ?_
          refine T.seq ?_
          refine T.region ?_
          refine L.assign rfl rfl ?_
          refine L.nil ?_
          refine T.thenN ?_
          refine T.seq ?_
          refine T.seq ?_
          refine T.region ?_
          refine L.assign rfl rfl ?_
          refine L.nil ?_
          refine T.thenN ?_
          refine T.block ?_
          refine T.loop (fun K' D' M' μ => ∃ (i v : Nat), (i ≤ q.length ∧ v = beV (q.take i)) ∧ K' = [(8, .int .i64 i), (7, .int .u64 (v : Int))] ∧ D' = [] ∧ M' = [] ∧ μ = q.length - i) (.cons (t := 1) rfl <| .cons (t := 2) rfl <| .cons (t := 6) rfl <| SubK.nil _) (⟨0, 0, ⟨by omega, rfl⟩, rfl, rfl, rfl, rfl⟩) (.cons (t := 8) rfl <| .cons (t := 7) rfl <| SubK.nil _) qD qS ?_
          rintro K1 D1 M1 m1 ⟨i, v, ⟨hi, hv⟩, rfl, rfl, rfl, rfl⟩
          refine T.norm3 qA qA qA ?_
          refine T.seq ?_
          refine T.seq ?_
          refine T.region ?_
          refine L.move rfl rfl ?_
          refine L.move rfl rfl ?_
          refine L.lenStr rfl Try.underlying9 rfl ?_
          refine L.ltI rfl rfl rfl ?_
          refine L.nil ?_
          refine T.thenN ?_
          refine T.cond rfl (fun h45 => ?_) (fun h45 => ?_)
          · try simp only [decide_eq_true_eq, decide_eq_false_iff_not, Bool.not_eq_true', Bool.not_eq_false', Bool.and_eq_true, Bool.or_eq_true] at h45
            refine T.skip ?_
            refine T.thenN ?_
            refine T.seq ?_
            refine T.block ?_
            have hqi : q[i]? = some (gd q i) := gd_get (by omega)
            have hdl := (gd q i).toNat_lt
            have hv56 : v < 72057594037927936 := by rw [hv]; exact beV_8 (k := i) (by rw [List.length_take]; omega) (by omega)
            refine T.region ?_
            refine L.move rfl rfl ?_
            refine L.mulU rfl rfl rfl qI ?_
            refine L.move rfl rfl ?_
            refine L.move rfl rfl ?_
            refine L.indexS (i := i) rfl Try.underlying9 rfl rfl (by first | rfl | omega | (simp; done)) (by first | assumption | exact gd_get qL) ?_
            refine L.convU rfl Try.underlying5 Try.underlying89 rfl qI ?_
            refine L.addU rfl rfl rfl qI ?_
            rw [show ((v : Int) * 256 + (((gd q i).toNat : Nat) : Int)) = ((v * 256 + (gd q i).toNat : Nat) : Int) by omega]
            refine L.assign rfl rfl ?_
            refine L.nil ?_
            refine T.blkN ?_
            refine T.thenN ?_
            refine T.region ?_
            refine L.move rfl rfl ?_
            refine L.addN rfl rfl rfl (by omega) ?_
            refine L.assign rfl rfl ?_
            refine L.nil ?_
            refine T.thenN ?_
            exact T.back ⟨i + 1, _, ⟨by omega, by rw [hv, ← take_snoc hqi, beV_snoc]⟩, rfl, rfl, rfl, rfl⟩ qI (.cons (t := 8) rfl <| .cons (t := 7) rfl <| SubK.nil _) (.cons (t := 1) rfl <| .cons (t := 2) rfl <| .cons (t := 6) rfl <| SubK.nil _) qD qD qF
          · try simp only [decide_eq_true_eq, decide_eq_false_iff_not, Bool.not_eq_true', Bool.not_eq_false', Bool.and_eq_true, Bool.or_eq_true] at h45
            refine T.exit ?_
            refine T.thenX ?_
            refine T.thenX ?_
            refine T.blkX ?_
            refine T.thenN ?_
            refine T.seq ?_
            refine T.region ?_
            refine L.loadA rfl ag99 rfl qN ?_
            refine L.move rfl rfl ?_
            refine L.storeA ag99 rfl rfl qL qO qU qW ?_
            refine L.assign rfl rfl ?_
            refine L.nil ?_
            refine T.thenN ?_
            refine T.ret ?_
            exact T.retAT rfl ag99 rfl qN rfl ⟨by rw [num_5 hpe (by rw [← hc]; exact hn8) (by rw [← hc]; exact hqe) (by rw [← hc, ← hq]; exact hz0), ← hc, ← hq, hv, List.take_of_length_le (by omega)], rfl, rfl⟩ qD qF
set_option maxHeartbeats 400000 in
theorem rint_spec {b : Bl} {top : Nat} (ht : top ≤ 1000000000) : Spec Try.prog 65 [.agg (blR b).toArray, .int .i64 (top : Int)] [] [] (fun v D' M' => v = .tuple #[.agg (blR (intR b top).2).toArray, .int .i64 ((intR b top).1 : Int)] ∧ D' = [] ∧ M' = []) := by
  refine Spec.intro (n := 25) Try.func65 rfl rfl (by decide) (Nat.le_of_ble_eq_true rfl) rfl (fun _ => qA) (fun _ => qA) ?_
  intro σ D M
  have hn64 := num_64 b
  refine T.seq ?_
  refine T.region ?_
  refine L.box rfl rfl rfl (fun b2 => ?_)
  refine L.alloc rfl ze99 (fun b4 => ?_)
  refine L.assign rfl rfl ?_
  refine L.nil ?_
  refine T.thenN ?_
  refine T.seq ?_
  refine T.region ?_
  refine L.loadA rfl ag99 rfl qN ?_
  refine L.callF rfl (evs.cons rfl <| evs.nil) qD qS (rtnum_spec (b := b)) (by rintro u D1 M1 ⟨rfl, rfl, rfl⟩; exact ⟨rfl, _, qA, qF⟩) ?_
  refine L.move rfl rfl ?_
  refine L.extract rfl rfl rfl ?_
  refine L.extract rfl rfl rfl ?_
  refine L.storeA ag99 rfl rfl qL qO qU qW ?_
  refine L.assign rfl rfl ?_
  refine L.nil ?_
  refine T.thenN ?_
  refine T.seq ?_
  refine T.seq ?_
  refine T.region ?_
  first | refine L.field0 rfl fo99_1 rfl ?_ | refine L.field rfl fo99_1 rfl ?_
  refine L.load rfl sc3 rfl qC ?_
  refine L.neI rfl rfl rfl ?_
  refine L.nil ?_
  refine T.thenN ?_
  refine T.cond rfl (fun h14 => ?_) (fun h14 => ?_)
  · try simp only [decide_eq_true_eq, decide_eq_false_iff_not, Bool.not_eq_true', Bool.not_eq_false', Bool.and_eq_true, Bool.or_eq_true] at h14
    refine T.seq ?_
    refine T.region ?_
    refine L.loadA rfl ag99 rfl qN ?_
    refine L.storeA ag99 rfl rfl qL qO qU qW ?_
    refine L.assign rfl rfl ?_
    refine L.nil ?_
    refine T.thenN ?_
    refine T.ret ?_
    refine T.thenR ?_
    exact T.retAT rfl ag99 rfl qN rfl ⟨by rw [int_1 h14]; rfl, rfl, rfl⟩ qD qF
  · try simp only [decide_eq_true_eq, decide_eq_false_iff_not, Bool.not_eq_true', Bool.not_eq_false', Bool.and_eq_true, Bool.or_eq_true] at h14
    refine T.skip ?_
    refine T.thenN ?_
    refine T.seq ?_
    refine T.seq ?_
    refine T.region ?_
    refine L.move rfl rfl ?_
    refine L.move rfl rfl ?_
    refine L.maxI rfl rfl rfl ?_
    rw [show max (top : Int) 0 = (top : Int) by omega]
    refine L.convU rfl Try.underlying3 Try.underlying89 rfl qI ?_
    refine L.gtI rfl rfl rfl ?_
    refine L.nil ?_
    refine T.thenN ?_
    refine T.cond rfl (fun h20 => ?_) (fun h20 => ?_)
    · try simp only [decide_eq_true_eq, decide_eq_false_iff_not, Bool.not_eq_true', Bool.not_eq_false', Bool.and_eq_true, Bool.or_eq_true] at h20
      refine T.seq ?_
      refine T.region ?_
      refine L.build rfl bu99 (BP.one rfl rfl rfl <| BP.one rfl rfl rfl <| BP.doneE (out := []) rfl) ?_
      refine L.storeA ag99 rfl rfl qL qO qU qW ?_
      refine L.assign rfl rfl ?_
      refine L.nil ?_
      refine T.thenN ?_
      refine T.ret ?_
      refine T.thenR ?_
      exact T.retAT rfl ag99 rfl qN rfl ⟨by rw [int_2 (Decidable.not_not.1 h14) (by omega)]; rfl, rfl, rfl⟩ qD qF
    · try simp only [decide_eq_true_eq, decide_eq_false_iff_not, Bool.not_eq_true', Bool.not_eq_false', Bool.and_eq_true, Bool.or_eq_true] at h20
      refine T.skip ?_
      refine T.thenN ?_
      refine T.seq ?_
      refine T.region ?_
      refine L.loadA rfl ag99 rfl qN ?_
      refine L.move rfl rfl ?_
      refine L.convN rfl Try.underlying89 Try.underlying3 rfl qI ?_
      refine L.storeA ag99 rfl rfl qL qO qU qW ?_
      refine L.assign rfl rfl ?_
      refine L.nil ?_
      refine T.thenN ?_
      refine T.ret ?_
      exact T.retAT rfl ag99 rfl qN rfl ⟨by rw [int_3 (Decidable.not_not.1 h14) (by omega)], rfl, rfl⟩ qD qF
set_option maxHeartbeats 400000 in
theorem rtstr_spec {b : Bl} {top : Nat} (ht : top ≤ 1000000000) : Spec Try.prog 64 [.agg (blR b).toArray, .int .i64 (top : Int)] [] [] (fun v D' M' => v = .tuple #[.agg (blR (strR b top).2).toArray, S (strR b top).1] ∧ D' = [] ∧ M' = []) := by
  refine Spec.intro (n := 18) Try.func64 rfl rfl (by decide) (Nat.le_of_ble_eq_true rfl) rfl (fun _ => qA) (fun _ => qA) ?_
  intro σ D M
  have hle := int_le b top
  refine T.seq ?_
  refine T.region ?_
  refine L.box rfl rfl rfl (fun b2 => ?_)
  refine L.alloc rfl ze99 (fun b4 => ?_)
  refine L.assign rfl rfl ?_
  refine L.nil ?_
  refine T.thenN ?_
  refine T.seq ?_
  refine T.region ?_
  refine L.loadA rfl ag99 rfl qN ?_
  refine L.move rfl rfl ?_
  refine L.callF rfl (evs.cons rfl <| evs.cons rfl <| evs.nil) qD qS (rint_spec (b := b) (top := top) ht) (by rintro u D1 M1 ⟨rfl, rfl, rfl⟩; exact ⟨rfl, _, qA, qF⟩) ?_
  refine L.move rfl rfl ?_
  refine L.extract rfl rfl rfl ?_
  refine L.extract rfl rfl rfl ?_
  refine L.storeA ag99 rfl rfl qL qO qU qW ?_
  refine L.assign rfl rfl ?_
  refine L.nil ?_
  refine T.thenN ?_
  refine T.seq ?_
  refine T.region ?_
  refine L.loadA rfl ag99 rfl qN ?_
  refine L.move rfl rfl ?_
  refine L.callF rfl (evs.cons rfl <| evs.cons rfl <| evs.nil) qD qS (rbytes_spec (b := (intR b top).2) (n := (intR b top).1) (by omega)) (by rintro u D1 M1 ⟨rfl, rfl, rfl⟩; exact ⟨rfl, _, qA, qF⟩) ?_
  refine L.extract rfl rfl rfl ?_
  refine L.extract rfl rfl rfl ?_
  refine L.storeA ag99 rfl rfl qL qO qU qW ?_
  refine L.assign rfl rfl ?_
  refine L.nil ?_
  refine T.thenN ?_
  refine T.ret ?_
  exact T.retAT rfl ag99 rfl qN rfl ⟨by unfold strR; rfl, rfl, rfl⟩ qD qF
set_option maxHeartbeats 400000 in
theorem rclose_spec {b : Bl}  : Spec Try.prog 66 [.agg (blR b).toArray] [] [] (fun v D' M' => v = .int .i64 (closeE b) ∧ D' = [] ∧ M' = []) := by
  refine Spec.intro (n := 13) Try.func66 rfl rfl (by decide) (Nat.le_of_ble_eq_true rfl) rfl (fun _ => qA) (fun _ => qA) ?_
  intro σ D M
  refine T.seq ?_
  refine T.region ?_
  refine L.box rfl rfl rfl (fun b1 => ?_)
  refine L.assign rfl rfl ?_
  refine L.nil ?_
  refine T.thenN ?_
  refine T.seq ?_
  refine T.seq ?_
  refine T.cutC (fun K' D' M' => ∃ (w : Bool), (w = true ↔ (b.err = 0 ∧ b.left ≠ [])) ∧ K' = [(10, .bool w)] ∧ D' = [] ∧ M' = []) (M0 := []) (.cons (t := 1) rfl <| SubK.nil _) qS ?_ ?_
  · skip
    by_cases hne : b.err = 0
    · skip
      refine T.region ?_
      first | refine L.field0 rfl fo99_1 rfl ?_ | refine L.field rfl fo99_1 rfl ?_
      refine L.load rfl sc3 rfl qC ?_
      refine L.eqI rfl rfl rfl ?_
      refine L.move rfl rfl ?_
      refine L.known (t := 6) rfl (show _ = Value.bool true from congrArg Value.bool (decide_eq_true hne)) ?_
      refine L.guardT (dj := 6) rfl rfl rfl ?_
      first | refine L.field0 rfl fo99_0 rfl ?_ | refine L.field rfl fo99_0 rfl ?_
      refine L.guardT (dj := 6) rfl rfl rfl ?_
      refine L.load rfl sc9 rfl qC ?_
      refine L.guardT (dj := 6) rfl rfl rfl ?_
      refine L.neS rfl rfl rfl ?_
      refine L.pickT rfl rfl rfl ?_
      refine L.nil ?_
      refine T.thenN ?_
      exact T.toJoin ⟨_, (by simp_all), rfl, rfl, rfl⟩ (.cons (t := 10) rfl <| SubK.nil _) (.cons (t := 1) rfl <| SubK.nil _) qD qD qF
    · skip
      refine T.region ?_
      first | refine L.field0 rfl fo99_1 rfl ?_ | refine L.field rfl fo99_1 rfl ?_
      refine L.load rfl sc3 rfl qC ?_
      refine L.eqI rfl rfl rfl ?_
      refine L.move rfl rfl ?_
      refine L.known (t := 6) rfl (show _ = Value.bool false from congrArg Value.bool (decide_eq_false hne)) ?_
      refine L.guardF (dj := 6) (c := false) rfl rfl rfl rfl rfl (by decide) ?_
      refine L.guardF (dj := 6) (c := false) rfl rfl rfl rfl rfl (by decide) ?_
      refine L.guardF (dj := 6) (c := false) rfl rfl rfl rfl rfl (by decide) ?_
      refine L.pickF rfl rfl rfl ?_
      refine L.nil ?_
      refine T.thenN ?_
      exact T.toJoin ⟨_, (by simp_all), rfl, rfl, rfl⟩ (.cons (t := 10) rfl <| SubK.nil _) (.cons (t := 1) rfl <| SubK.nil _) qD qD qF
  rintro _ _ _ ⟨w, hw, rfl, rfl, rfl⟩
  refine T.norm3 qA qA qA ?_
  refine T.thenN ?_
  refine T.cond rfl (fun h10 => ?_) (fun h10 => ?_)
  · try simp only [decide_eq_true_eq, decide_eq_false_iff_not, Bool.not_eq_true', Bool.not_eq_false', Bool.and_eq_true, Bool.or_eq_true] at h10
    refine T.seq ?_
    refine T.region ?_
    refine L.assign rfl rfl ?_
    refine L.nil ?_
    refine T.thenN ?_
    refine T.ret ?_
    refine T.thenR ?_
    exact T.ret1 rfl rfl ⟨congrArg (Value.int .i64) (by unfold closeE; rw [if_pos (hw.1 h10)]), rfl, rfl⟩ qD qF
  · try simp only [decide_eq_true_eq, decide_eq_false_iff_not, Bool.not_eq_true', Bool.not_eq_false', Bool.and_eq_true, Bool.or_eq_true] at h10
    refine T.skip ?_
    refine T.thenN ?_
    refine T.seq ?_
    refine T.region ?_
    first | refine L.field0 rfl fo99_1 rfl ?_ | refine L.field rfl fo99_1 rfl ?_
    refine L.load rfl sc3 rfl qC ?_
    refine L.assign rfl rfl ?_
    refine L.nil ?_
    refine T.thenN ?_
    refine T.ret ?_
    exact T.ret1 rfl rfl ⟨congrArg (Value.int .i64) (by unfold closeE; rw [if_neg (fun e => by rw [hw.2 e] at h10; cases h10)]), rfl, rfl⟩ qD qF
set_option maxHeartbeats 400000 in
theorem hasp_spec {s m : List UInt8}  : Spec Try.prog 89 [S s, S m] [] [] (fun v D' M' => v = .bool (decide (s.take m.length = m)) ∧ D' = [] ∧ M' = []) := by
  refine Spec.intro (n := 18) Try.func89 rfl rfl (by decide) (Nat.le_of_ble_eq_true rfl) rfl (fun _ => qA) (fun _ => qA) ?_
  intro σ D M
  refine T.seq ?_
  refine T.region ?_
  refine L.assign rfl rfl ?_
  refine L.nil ?_
  refine T.thenN ?_
  refine T.seq ?_
  rcases Nat.lt_or_ge s.length m.length with hlt | hge
  · skip
    refine T.region ?_
    refine L.move rfl rfl ?_
    refine L.lenStr rfl Try.underlying9 rfl ?_
    refine L.move rfl rfl ?_
    refine L.lenStr rfl Try.underlying9 rfl ?_
    refine L.geI rfl rfl rfl ?_
    refine L.move rfl rfl ?_
    refine L.known (t := 10) rfl (show _ = Value.bool false from congrArg Value.bool (decide_eq_false (by omega))) ?_
    refine L.guardF (dj := 10) (c := false) rfl rfl rfl rfl rfl (by decide) ?_
    refine L.guardF (dj := 10) (c := false) rfl rfl rfl rfl rfl (by decide) ?_
    refine L.guardF (dj := 10) (c := false) rfl rfl rfl rfl rfl (by decide) ?_
    refine L.guardF (dj := 10) (c := false) rfl rfl rfl rfl rfl (by decide) ?_
    refine L.guardF (dj := 10) (c := false) rfl rfl rfl rfl rfl (by decide) ?_
    refine L.guardF (dj := 10) (c := false) rfl rfl rfl rfl rfl (by decide) ?_
    refine L.pickF rfl rfl rfl ?_
    refine L.assign rfl rfl ?_
    refine L.nil ?_
    refine T.thenN ?_
    refine T.ret ?_
    exact T.ret1 rfl rfl ⟨congrArg Value.bool (decide_eq_false (fun e => by have := congrArg List.length e; rw [List.length_take] at this; omega)).symm, rfl, rfl⟩ qD qF
  · skip
    refine T.region ?_
    refine L.move rfl rfl ?_
    refine L.lenStr rfl Try.underlying9 rfl ?_
    refine L.move rfl rfl ?_
    refine L.lenStr rfl Try.underlying9 rfl ?_
    refine L.geI rfl rfl rfl ?_
    refine L.move rfl rfl ?_
    refine L.known (t := 10) rfl (show _ = Value.bool true from congrArg Value.bool (decide_eq_true (by omega))) ?_
    refine L.guardT (dj := 10) rfl rfl rfl ?_
    refine L.move rfl rfl ?_
    refine L.guardT (dj := 10) rfl rfl rfl ?_
    refine L.move rfl rfl ?_
    refine L.guardT (dj := 10) rfl rfl rfl ?_
    refine L.lenStr rfl Try.underlying9 rfl ?_
    refine L.guardT (dj := 10) rfl rfl rfl ?_
    refine L.sliceS (a := 0) (b := m.length) rfl Try.underlying9 rfl rfl ⟨_, (by first | rfl | (congr 2; omega))⟩ qI qI ?_
    refine L.guardT (dj := 10) rfl rfl rfl ?_
    refine L.move rfl rfl ?_
    refine L.guardT (dj := 10) rfl rfl rfl ?_
    refine L.eqS rfl rfl rfl ?_
    refine L.pickT rfl rfl rfl ?_
    refine L.assign rfl rfl ?_
    refine L.nil ?_
    refine T.thenN ?_
    refine T.ret ?_
    exact T.ret1 rfl rfl ⟨congrArg Value.bool (by simp), rfl, rfl⟩ qD qF
set_option maxHeartbeats 400000 in
theorem scut_spec {s m : List UInt8}  : Spec Try.prog 75 [S s, S m] [] [] (fun v D' M' => v = .tuple #[S (if s.take m.length = m then s.drop m.length else s), .bool (decide (s.take m.length = m))] ∧ D' = [] ∧ M' = []) := by
  refine Spec.intro (n := 15) Try.func75 rfl rfl (by decide) (Nat.le_of_ble_eq_true rfl) rfl (fun _ => qA) (fun _ => qA) ?_
  intro σ D M
  refine T.seq ?_
  refine T.region ?_
  refine L.assign rfl rfl ?_
  refine L.assign rfl rfl ?_
  refine L.nil ?_
  refine T.thenN ?_
  refine T.seq ?_
  refine T.seq ?_
  refine T.region ?_
  refine L.move rfl rfl ?_
  refine L.move rfl rfl ?_
  refine L.callF rfl (evs.cons rfl <| evs.cons rfl <| evs.nil) qD qS (hasp_spec (s := s) (m := m)) (by rintro u D1 M1 ⟨rfl, rfl, rfl⟩; exact ⟨rfl, _, qA, qF⟩) ?_
  refine L.notB rfl rfl ?_
  refine L.nil ?_
  refine T.thenN ?_
  refine T.cond rfl (fun h9 => ?_) (fun h9 => ?_)
  · try simp only [decide_eq_true_eq, decide_eq_false_iff_not, Bool.not_eq_true', Bool.not_eq_false', Bool.and_eq_true, Bool.or_eq_true] at h9
    refine T.seq ?_
    refine T.region ?_
    refine L.move rfl rfl ?_
    refine L.assign rfl rfl ?_
    refine L.assign rfl rfl ?_
    refine L.nil ?_
    refine T.thenN ?_
    refine T.ret ?_
    refine T.thenR ?_
    have hpr : ¬ s.take m.length = m := by simpa using h9
    exact T.ret2 rfl rfl rfl ⟨by rw [if_neg hpr, decide_eq_false hpr], rfl, rfl⟩ qD qF
  · try simp only [decide_eq_true_eq, decide_eq_false_iff_not, Bool.not_eq_true', Bool.not_eq_false', Bool.and_eq_true, Bool.or_eq_true] at h9
    have hpr : s.take m.length = m := by simpa using h9
    have hml : m.length ≤ s.length := by have := congrArg List.length hpr; rw [List.length_take] at this; omega
    refine T.skip ?_
    refine T.thenN ?_
    refine T.seq ?_
    refine T.region ?_
    refine L.move rfl rfl ?_
    refine L.move rfl rfl ?_
    refine L.lenStr rfl Try.underlying9 rfl ?_
    refine L.sliceS (a := m.length) (b := _) rfl Try.underlying9 rfl ⟨_, (by first | rfl | (congr 2; omega))⟩ rfl qI qI ?_
    refine L.assign rfl rfl ?_
    refine L.assign rfl rfl ?_
    refine L.nil ?_
    refine T.thenN ?_
    refine T.ret ?_
    exact T.ret2 rfl rfl rfl ⟨by rw [if_pos hpr, decide_eq_true hpr]; simp, rfl, rfl⟩ qD qF
set_option maxHeartbeats 400000 in
theorem cutp_spec {s m : List UInt8}  : Spec Try.prog 60 [S s, S m] [] [] (fun v D' M' => v = .tuple #[S (if s.take m.length = m then s.drop m.length else s), .bool (decide (s.take m.length = m))] ∧ D' = [] ∧ M' = []) := by
  refine Spec.intro (n := 11) Try.func60 rfl rfl (by decide) (Nat.le_of_ble_eq_true rfl) rfl (fun _ => qA) (fun _ => qA) ?_
  intro σ D M
  refine T.seq ?_
  refine T.region ?_
  refine L.assign rfl rfl ?_
  refine L.assign rfl rfl ?_
  refine L.nil ?_
  refine T.thenN ?_
  refine T.seq ?_
  refine T.region ?_
  refine L.move rfl rfl ?_
  refine L.move rfl rfl ?_
  refine L.callF rfl (evs.cons rfl <| evs.cons rfl <| evs.nil) qD qS (scut_spec (s := s) (m := m)) (by rintro u D1 M1 ⟨rfl, rfl, rfl⟩; exact ⟨rfl, _, qA, qF⟩) ?_
  refine L.extract rfl rfl rfl ?_
  refine L.extract rfl rfl rfl ?_
  refine L.assign rfl rfl ?_
  refine L.assign rfl rfl ?_
  refine L.nil ?_
  refine T.thenN ?_
  refine T.ret ?_
  exact T.ret2 rfl rfl rfl ⟨rfl, rfl, rfl⟩ qD qF
end Cv
