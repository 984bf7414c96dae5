/-
  The walks: the reference reads archives.
-/
import Derived.Test.YtdajpfbgikgkeaaP06
import Derived.Test.YtdajpfbgikgkeaaG06
import Derived.Test.YtdajpfbgikgkeaaH05
import Derived.Test.YtdajpfbgikgkeaaProg
import Derived.KernelRfl
set_option linter.unusedVariables false
set_option linter.unusedSimpArgs false
set_option linter.unusedSectionVars false
set_option maxRecDepth 10000
namespace Cv
open Go Go.Proofs
theorem zv102 : ∀ w, (zeroValue 102).run Try.prog w = .ok (Value.agg #[Value.int .i64 0, S [], Value.bool false]) w := fun w => by kernel_rfl
theorem bs100 : Bs Try.prog 100 102 3 [Value.int .i64 0, S [], Value.bool false] := bs_of Try.underlying100 (fun w => by kernel_rfl) zv102 rfl rfl (by decide)
theorem sz102 : Sz Try.prog 102 3 := fun w => by kernel_rfl
theorem fo102_0 : Fo Try.prog 102 0 0 := fun a w => by kernel_rfl
theorem ag102 : Ag Try.prog 102 3 := fun w => ⟨by kernel_rfl, by kernel_rfl⟩
theorem ze102 : Ze Try.prog 102 [Value.int .i64 0, S [], Value.bool false] := ⟨_, rfl, zv102⟩
theorem fo102_2 : Fo Try.prog 102 2 2 := fun a w => by kernel_rfl
theorem fo102_1 : Fo Try.prog 102 1 1 := fun a w => by kernel_rfl
theorem bu102 : Bu Try.prog 102 [Value.int .i64 0, S [], Value.bool false] (fun (i : Nat) => ([(0, 1), (1, 1), (2, 1)] : List (Nat × Nat))[i]?) := bu_of Try.underlying102 zv102 rfl (fun w => by kernel_rfl)
theorem el102 : El Try.prog 102 3 32 := ⟨_, _, rfl, rfl, by kernel_rfl, by kernel_rfl, by kernel_rfl⟩
set_option maxHeartbeats 4000000 in
theorem rparse_spec {s : List UInt8} (hs : s.length ≤ 1000000000) : Spec Try.prog 36 [S s] [] [] (fun v D' M' => ∃ (a' : Option Addr) (n' c' : Nat), v = .tuple #[.slice a' n' c', .int .i64 (refP s).2] ∧ D' = [] ∧ M' = [own 7 67 a' n' c' ((refP s).1.map nrow)]) := by
  refine Spec.intro (n := 195) Try.func36 rfl rfl (by decide) (Nat.le_of_ble_eq_true rfl) rfl (fun _ => qA) (fun _ => qA) ?_
  intro σ D M
  refine T.seq ?_
  refine T.region ?_
  refine L.assign rfl rfl ?_
  refine L.assign rfl rfl ?_
  refine L.nil ?_
  refine T.thenN ?_
  refine T.seq ?_
  refine T.seq ?_
  refine T.region ?_
  refine L.move rfl rfl ?_
  refine L.lenStr rfl Try.underlying9 rfl ?_
  refine L.gtI rfl rfl rfl ?_
  refine L.nil ?_
  refine T.thenN ?_
  refine T.cond rfl (fun h21 => ?_) (fun h21 => ?_)
  · try simp only [decide_eq_true_eq, decide_eq_false_iff_not, Bool.not_eq_true', Bool.not_eq_false', Bool.and_eq_true, Bool.or_eq_true] at h21
    refine T.seq ?_
    refine T.region ?_
    refine L.assign rfl rfl ?_
    refine L.assign rfl rfl ?_
    refine L.nil ?_
    refine T.thenN ?_
    refine T.ret ?_
    refine T.thenR ?_
    have e0 : refP s = ([], 5) := refP_big (by omega)
    rw [e0]
    refine T.newOwn (sz := 7) (e := 67) ?_
    refine T.ownEq none (([] : List Nd).map nrow) qP (by rfl) ?_
    exact T.ret2 rfl rfl rfl ⟨none, 0, 0, rfl, rfl, rfl⟩ qD qF
  · try simp only [decide_eq_true_eq, decide_eq_false_iff_not, Bool.not_eq_true', Bool.not_eq_false', Bool.and_eq_true, Bool.or_eq_true] at h21
    refine T.skip ?_
    refine T.thenN ?_
    refine T.seq ?_
    refine T.seq ?_
    refine T.cutC (fun K' D' M' => ∃ (w3 : Bool), (w3 = true ↔ s.take 4 ≠ mark) ∧ K' = [(29, .bool w3)] ∧ D' = [] ∧ M' = []) (M0 := []) (.cons (t := 0) rfl <| SubK.nil _) qS ?_ ?_
    · skip
      rcases Nat.lt_or_ge s.length 4 with h4 | h4
      · skip
        refine T.region ?_
        refine L.move rfl rfl ?_
        refine L.lenStr rfl Try.underlying9 rfl ?_
        refine L.ltI rfl rfl rfl ?_
        refine L.move rfl rfl ?_
        refine L.known (t := 25) rfl (show _ = Value.bool true from congrArg Value.bool (decide_eq_true (by omega))) ?_
        refine L.guardF (dj := 25) (c := true) rfl rfl rfl rfl rfl (by decide) ?_
        refine L.guardF (dj := 25) (c := true) rfl rfl rfl rfl rfl (by decide) ?_
        refine L.guardF (dj := 25) (c := true) rfl rfl rfl rfl rfl (by decide) ?_
        refine L.pickT rfl rfl rfl ?_
        refine L.nil ?_
        refine T.thenN ?_
        exact T.toJoin ⟨_, ⟨fun _ => mark_short (by omega), fun _ => rfl⟩, rfl, rfl, rfl⟩ (.cons (t := 29) rfl <| SubK.nil _) (.cons (t := 0) rfl <| SubK.nil _) qD qD qF
      · skip
        refine T.region ?_
        refine L.move rfl rfl ?_
        refine L.lenStr rfl Try.underlying9 rfl ?_
        refine L.ltI rfl rfl rfl ?_
        refine L.move rfl rfl ?_
        refine L.known (t := 25) rfl (show _ = Value.bool false from congrArg Value.bool (decide_eq_false (by omega))) ?_
        refine L.guardT (dj := 25) rfl rfl rfl ?_
        refine L.move rfl rfl ?_
        refine L.guardT (dj := 25) rfl rfl rfl ?_
        refine L.sliceS (a := 0) (b := _) rfl Try.underlying9 rfl rfl ⟨_, (by first | rfl | (congr 2; omega))⟩ qI qI ?_
        refine L.guardT (dj := 25) rfl rfl rfl ?_
        refine L.neS rfl rfl rfl ?_
        refine L.pickF rfl rfl rfl ?_
        refine L.nil ?_
        refine T.thenN ?_
        exact T.toJoin ⟨_, (by simp [mark]), rfl, rfl, rfl⟩ (.cons (t := 29) rfl <| SubK.nil _) (.cons (t := 0) rfl <| SubK.nil _) qD qD qF
    rintro _ _ _ ⟨w3, hw3, rfl, rfl, rfl⟩
    refine T.norm3 qA qA qA ?_
    refine T.thenN ?_
    refine T.cond rfl (fun h29 => ?_) (fun h29 => ?_)
    · try simp only [decide_eq_true_eq, decide_eq_false_iff_not, Bool.not_eq_true', Bool.not_eq_false', Bool.and_eq_true, Bool.or_eq_true] at h29
      refine T.seq ?_
      refine T.region ?_
      refine L.assign rfl rfl ?_
      refine L.assign rfl rfl ?_
      refine L.nil ?_
      refine T.thenN ?_
      refine T.ret ?_
      refine T.thenR ?_
      have e0 : refP s = ([], 2) := refP_form (by omega) (hw3.1 h29)
      rw [e0]
      refine T.newOwn (sz := 7) (e := 67) ?_
      refine T.ownEq none (([] : List Nd).map nrow) qP (by rfl) ?_
      exact T.ret2 rfl rfl rfl ⟨none, 0, 0, rfl, rfl, rfl⟩ qD qF
    · try simp only [decide_eq_true_eq, decide_eq_false_iff_not, Bool.not_eq_true', Bool.not_eq_false', Bool.and_eq_true, Bool.or_eq_true] at h29
      have hmk : ¬ s.take 4 ≠ mark := fun e => by rw [hw3.2 e] at h29; cases h29
      have h4l : 4 ≤ s.length := by
        rcases Nat.lt_or_ge s.length 4 with h4 | h4
        · exact absurd (mark_short h4) hmk
        · exact h4
      refine T.skip ?_
      refine T.thenN ?_
      refine T.seq ?_
      refine T.region ?_
      refine L.move rfl rfl ?_
      refine L.sliceS (a := 4) (b := _) rfl Try.underlying9 rfl ⟨_, (by first | rfl | (congr 2; omega))⟩ rfl qI qI ?_
      refine L.build rfl bu99 (BP.one rfl rfl rfl <| BP.doneE (out := [Value.int .i64 0]) rfl) ?_
      refine L.alloc rfl ze99 (fun b4 => ?_)
      refine L.storeA ag99 rfl rfl qL qO qU qW ?_
      refine L.nil ?_
      refine T.clEq b4 (blR ⟨s.drop 4, 0⟩) qP (by simp) ?_
      refine T.thenN ?_
      refine T.seq ?_
      refine T.region ?_
      refine L.buildSlice rfl bs26 (by decide) (BP.doneE (out := []) rfl) (fun b33 => ?_)
      refine L.toOwn (len := 0) (sz := 7) qP (rows := ([] : List Nd).map nrow) (by rfl) rfl (by simp) ?_
      refine L.assign rfl rfl ?_
      refine L.nil ?_
      refine T.thenN ?_
      refine T.seq ?_
      refine T.region ?_
      refine L.buildSlice rfl bs100 (by decide) (BP.doneE (out := []) rfl) (fun b34 => ?_)
      refine L.toOwn (len := 0) (sz := 3) qP (rows := ([] : List Op).reverse.map opR) (by rfl) rfl (by simp) ?_
      refine L.assign rfl rfl ?_
      refine L.nil ?_
      refine T.thenN ?_
      refine T.seq ?_
      refine T.seq ?_
      refine T.region ?_
      refine L.assign rfl rfl ?_
      refine L.nil ?_
      refine T.thenN ?_
      refine T.block ?_
      refine T.loop (fun K' D' M' μ => ∃ (tn ln lc sn sc : Nat) (la sa : Option Addr) (l : List Nd) (Lq : List Op) (bl : Bl), ((tn ≤ 70 ∧ ln = tn ∧ l.length = ln ∧ Lq.length = sn) ∧ PI ⟨s.drop 4, 0⟩ tn l Lq bl) ∧ K' = [(7, .int .i64 (tn : Int)), (5, .slice la ln lc), (6, .slice sa sn sc)] ∧ D' = [] ∧ M' = [cl b4 99 (blR (bl)), own 7 67 la ln lc ((l).map nrow), own 3 102 sa sn sc ((Lq).reverse.map opR)] ∧ μ = 70 - tn) (.cons (t := 4) rfl <| SubK.nil _) (⟨0, 0, _, 0, _, _, _, [], [], ⟨s.drop 4, 0⟩, ⟨⟨by omega, rfl, rfl, rfl⟩, PI.zero _⟩, rfl, rfl, rfl, rfl⟩) (.cons (t := 7) rfl <| .cons (t := 5) rfl <| .cons (t := 6) rfl <| SubK.nil _) qD qS ?_
      rintro K1 D1 M1 m1 ⟨tn, ln, lc, sn, sc, la, sa, l, Lq, bl, ⟨⟨htn, hln, hll, hLl⟩, hPI⟩, rfl, rfl, rfl, rfl⟩
      refine T.norm3 qA qA qA ?_
      refine T.seq ?_
      refine T.seq ?_
      refine T.cutC (fun K' D' M' => ∃ (w9 : Bool), (w9 = true ↔ (tn < 70 ∧ bl.err = 0)) ∧ K' = [(41, .bool w9)] ∧ D' = [] ∧ M' = []) (M0 := []) (.cons (t := 4) rfl <| .cons (t := 5) rfl <| .cons (t := 6) rfl <| .cons (t := 7) rfl <| SubK.nil _) qS ?_ ?_
      · skip
        rcases Nat.lt_or_ge tn 70 with h70 | h70
        · skip
          refine T.region ?_
          refine L.move rfl rfl ?_
          refine L.ltI rfl rfl rfl ?_
          refine L.move rfl rfl ?_
          refine L.known (t := 37) rfl (show _ = Value.bool true from congrArg Value.bool (decide_eq_true (by omega))) ?_
          refine L.guardT (dj := 37) rfl rfl rfl ?_
          first | refine L.field0 rfl fo99_1 rfl ?_ | refine L.field rfl fo99_1 rfl ?_
          refine L.guardT (dj := 37) rfl rfl rfl ?_
          refine L.load rfl sc3 rfl qC ?_
          refine L.guardT (dj := 37) rfl rfl rfl ?_
          refine L.eqI rfl rfl rfl ?_
          refine L.pickT rfl rfl rfl ?_
          refine L.nil ?_
          refine T.thenN ?_
          exact T.toJoin ⟨_, (by rw [decide_eq_true_eq]; exact ⟨fun h => ⟨h70, h⟩, fun h => h.2⟩), rfl, rfl, rfl⟩ (.cons (t := 41) rfl <| SubK.nil _) (.cons (t := 4) rfl <| .cons (t := 5) rfl <| .cons (t := 6) rfl <| .cons (t := 7) rfl <| SubK.nil _) qD qD qF
        · skip
          refine T.region ?_
          refine L.move rfl rfl ?_
          refine L.ltI rfl rfl rfl ?_
          refine L.move rfl rfl ?_
          refine L.known (t := 37) rfl (show _ = Value.bool false from congrArg Value.bool (decide_eq_false (by omega))) ?_
          refine L.guardF (dj := 37) (c := false) rfl rfl rfl rfl rfl (by decide) ?_
          refine L.guardF (dj := 37) (c := false) rfl rfl rfl rfl rfl (by decide) ?_
          refine L.guardF (dj := 37) (c := false) rfl rfl rfl rfl rfl (by decide) ?_
          refine L.pickF rfl rfl rfl ?_
          refine L.nil ?_
          refine T.thenN ?_
          exact T.toJoin ⟨_, ⟨(fun h => by cases h), (fun h => absurd h.1 (by omega))⟩, rfl, rfl, rfl⟩ (.cons (t := 41) rfl <| SubK.nil _) (.cons (t := 4) rfl <| .cons (t := 5) rfl <| .cons (t := 6) rfl <| .cons (t := 7) rfl <| SubK.nil _) qD qD qF
      rintro _ _ _ ⟨w9, hw9, rfl, rfl, rfl⟩
      refine T.norm3 qA qA qA ?_
      refine T.thenN ?_
      refine T.cond rfl (fun h41 => ?_) (fun h41 => ?_)
      · try simp only [decide_eq_true_eq, decide_eq_false_iff_not, Bool.not_eq_true', Bool.not_eq_false', Bool.and_eq_true, Bool.or_eq_true] at h41
        have hwt := hw9.1 h41
        have hok := hPI.ok hwt.2
        refine T.skip ?_
        refine T.thenN ?_
        refine T.seq ?_
        refine T.block ?_
        refine T.seq ?_
        refine T.seq ?_
        refine T.region ?_
        refine L.assign rfl rfl ?_
        refine L.nil ?_
        refine T.thenN ?_
        refine T.block ?_
        refine T.loop (fun K' D' M' μ => ∃ (k sk : Nat) (Lk : List Op), ((k + sk = sn ∧ Lk.length = sk) ∧ popL Lq = popL Lk) ∧ K' = [(8, .int .i64 (k : Int)), (6, .slice sa sk sc)] ∧ D' = [] ∧ M' = [own 3 102 sa sk sc ((Lk).reverse.map opR)] ∧ μ = 2 * sk) (.cons (t := 4) rfl <| .cons (t := 5) rfl <| .cons (t := 7) rfl <| SubK.nil _) (⟨0, sn, Lq, ⟨⟨by omega, hLl⟩, rfl⟩, rfl, rfl, rfl, rfl⟩) (.cons (t := 8) rfl <| .cons (t := 6) rfl <| SubK.nil _) qD qS ?_
        rintro K1 D1 M1 m1 ⟨k, sk, Lk, ⟨⟨hks, hlk⟩, hpk⟩, rfl, rfl, rfl, rfl⟩
        refine T.norm3 qA qA qA ?_
        refine T.seq ?_
        refine T.seq ?_
        refine T.cutC (fun K' D' M' => ∃ (w12 : Bool), (w12 = true ↔ Pz Lk) ∧ K' = [(60, .bool w12)] ∧ D' = [] ∧ M' = []) (M0 := []) (.cons (t := 4) rfl <| .cons (t := 5) rfl <| .cons (t := 6) rfl <| .cons (t := 7) rfl <| .cons (t := 8) rfl <| SubK.nil _) qS ?_ ?_
        · skip
          rcases Lk with _ | ⟨o, os⟩
          · skip
            refine T.region ?_
            refine L.move rfl rfl ?_
            refine L.ltI rfl rfl rfl ?_
            refine L.move rfl rfl ?_
            refine L.known (t := 46) rfl (show _ = Value.bool true from congrArg Value.bool (decide_eq_true (by omega))) ?_
            refine L.guardT (dj := 46) rfl rfl rfl ?_
            refine L.move rfl rfl ?_
            refine L.guardT (dj := 46) rfl rfl rfl ?_
            refine L.lenSl rfl Try.underlying100 rfl ?_
            refine L.guardT (dj := 46) rfl rfl rfl ?_
            refine L.gtI rfl rfl rfl ?_
            refine L.pickT rfl rfl rfl ?_
            refine L.move rfl rfl ?_
            refine L.known (t := 51) rfl (show _ = Value.bool false from congrArg Value.bool (decide_eq_false (by simp only [List.length_nil] at hlk; omega))) ?_
            refine L.guardF (dj := 51) (c := false) rfl rfl rfl rfl rfl (by decide) ?_
            refine L.guardF (dj := 51) (c := false) rfl rfl rfl rfl rfl (by decide) ?_
            refine L.guardF (dj := 51) (c := false) rfl rfl rfl rfl rfl (by decide) ?_
            refine L.guardF (dj := 51) (c := false) rfl rfl rfl rfl rfl (by decide) ?_
            refine L.guardF (dj := 51) (c := false) rfl rfl rfl rfl rfl (by decide) ?_
            refine L.guardF (dj := 51) (c := false) rfl rfl rfl rfl rfl (by decide) ?_
            refine L.guardF (dj := 51) (c := false) rfl rfl rfl rfl rfl (by decide) ?_
            refine L.guardF (dj := 51) (c := false) rfl rfl rfl rfl rfl (by decide) ?_
            refine L.pickF rfl rfl rfl ?_
            refine L.nil ?_
            refine T.thenN ?_
            exact T.toJoin ⟨_, ⟨(fun h => by cases h), (fun h => absurd h (fun q => q))⟩, rfl, rfl, rfl⟩ (.cons (t := 60) rfl <| SubK.nil _) (.cons (t := 4) rfl <| .cons (t := 5) rfl <| .cons (t := 6) rfl <| .cons (t := 7) rfl <| .cons (t := 8) rfl <| SubK.nil _) qD qD qF
          · skip
            have hlk1 := hlk
            simp only [List.length_cons] at hlk1
            have hrow := rev_last (o := o) (os := os) hlk
            refine T.ownNe (sz := 3) qM (by omega) (fun bs oo ha => ?_)
            subst ha
            refine T.region ?_
            refine L.move rfl rfl ?_
            refine L.ltI rfl rfl rfl ?_
            refine L.move rfl rfl ?_
            refine L.known (t := 46) rfl (show _ = Value.bool true from congrArg Value.bool (decide_eq_true (by omega))) ?_
            refine L.guardT (dj := 46) rfl rfl rfl ?_
            refine L.move rfl rfl ?_
            refine L.guardT (dj := 46) rfl rfl rfl ?_
            refine L.lenSl rfl Try.underlying100 rfl ?_
            refine L.guardT (dj := 46) rfl rfl rfl ?_
            refine L.gtI rfl rfl rfl ?_
            refine L.pickT rfl rfl rfl ?_
            refine L.move rfl rfl ?_
            refine L.known (t := 51) rfl (show _ = Value.bool true from congrArg Value.bool (decide_eq_true (by simp only [List.length_cons] at hlk; omega))) ?_
            refine L.guardT (dj := 51) rfl rfl rfl ?_
            refine L.move rfl rfl ?_
            refine L.guardT (dj := 51) rfl rfl rfl ?_
            refine L.move rfl rfl ?_
            refine L.guardT (dj := 51) rfl rfl rfl ?_
            refine L.lenSl rfl Try.underlying100 rfl ?_
            refine L.guardT (dj := 51) rfl rfl rfl ?_
            refine L.subN rfl rfl rfl (by omega) ?_
            rw [show (sk : Int) - 1 = ((sk - 1 : Nat) : Int) by omega]
            refine L.guardT (dj := 51) rfl rfl rfl ?_
            refine L.idxG (i := sk - 1) rfl Try.underlying100 sz102 rfl rfl (by first | rfl | omega | (simp; done)) qI ?_
            refine L.guardT (dj := 51) rfl rfl rfl ?_
            first | refine L.field0 rfl fo102_0 rfl ?_ | refine L.field rfl fo102_0 rfl ?_
            refine L.guardT (dj := 51) rfl rfl rfl ?_
            refine L.load rfl sc3 rfl qC ?_
            refine L.guardT (dj := 51) rfl rfl rfl ?_
            refine L.eqI rfl rfl rfl ?_
            refine L.pickT rfl rfl rfl ?_
            refine L.nil ?_
            refine T.thenN ?_
            exact T.toJoin ⟨_, (by simp [Pz]), rfl, rfl, rfl⟩ (.cons (t := 60) rfl <| SubK.nil _) (.cons (t := 4) rfl <| .cons (t := 5) rfl <| .cons (t := 6) rfl <| .cons (t := 7) rfl <| .cons (t := 8) rfl <| SubK.nil _) qD qD qF
        rintro _ _ _ ⟨w12, hw12, rfl, rfl, rfl⟩
        refine T.norm3 qA qA qA ?_
        refine T.thenN ?_
        refine T.cond rfl (fun h60 => ?_) (fun h60 => ?_)
        · try simp only [decide_eq_true_eq, decide_eq_false_iff_not, Bool.not_eq_true', Bool.not_eq_false', Bool.and_eq_true, Bool.or_eq_true] at h60
          obtain ⟨o, os, hLo, ho0⟩ := pz_cons (hw12.1 h60)
          subst hLo
          have hlk1 := hlk
          simp only [List.length_cons] at hlk1
          refine T.skip ?_
          refine T.thenN ?_
          refine T.seq ?_
          refine T.block ?_
          refine T.ownLen (rows := (o :: os).reverse.map opR) qM (fun _ hcap => ?_)
          refine T.region ?_
          refine L.move rfl rfl ?_
          refine L.move rfl rfl ?_
          refine L.lenSl rfl Try.underlying100 rfl ?_
          refine L.subN rfl rfl rfl (by omega) ?_
          rw [show (sk : Int) - 1 = ((sk - 1 : Nat) : Int) by omega]
          refine L.sliceTo rfl Try.underlying100 sz102 rfl (Bd.at (x := sk - 1) rfl (by first | rfl | omega | (simp; done))) qI ?_
          refine L.assign rfl rfl ?_
          refine L.nil ?_
          refine T.ownTo (h := sk - 1) qP (by omega) ?_
          refine T.ownEq _ (os.reverse.map opR) qP (rev_take hlk) ?_
          refine T.blkN ?_
          refine T.thenN ?_
          refine T.region ?_
          refine L.move rfl rfl ?_
          refine L.addN rfl rfl rfl (by omega) ?_
          refine L.assign rfl rfl ?_
          refine L.nil ?_
          refine T.thenN ?_
          exact T.back ⟨k + 1, sk - 1, os, ⟨⟨by omega, by omega⟩, by rw [hpk, pop_zero ho0]⟩, rfl, rfl, rfl, rfl⟩ qI (.cons (t := 8) rfl <| .cons (t := 6) rfl <| SubK.nil _) (.cons (t := 4) rfl <| .cons (t := 5) rfl <| .cons (t := 7) rfl <| SubK.nil _) qD qD qF
        · try simp only [decide_eq_true_eq, decide_eq_false_iff_not, Bool.not_eq_true', Bool.not_eq_false', Bool.and_eq_true, Bool.or_eq_true] at h60
          have hps : popL Lk = Lk := pop_stop (fun e => by rw [hw12.2 e] at h60; cases h60)
          rw [hps] at hpk
          have hPk := pop_all hPI.bd
          rw [hpk] at hPk
          refine T.exit ?_
          refine T.thenX ?_
          refine T.thenX ?_
          refine T.blkX ?_
          refine T.thenN ?_
          refine T.seq ?_
          refine T.seq ?_
          refine T.cutC (fun K' D' M' => ∃ (w15 : Bool), (w15 = true ↔ (0 < tn ∧ sk = 0)) ∧ K' = [(75, .bool w15)] ∧ D' = [] ∧ M' = []) (M0 := []) (.cons (t := 4) rfl <| .cons (t := 5) rfl <| .cons (t := 6) rfl <| .cons (t := 7) rfl <| SubK.nil _) qS ?_ ?_
          · skip
            rcases Nat.eq_zero_or_pos tn with h0 | h0
            · skip
              refine T.region ?_
              refine L.move rfl rfl ?_
              refine L.lenSl rfl Try.underlying26 rfl ?_
              refine L.gtI rfl rfl rfl ?_
              refine L.move rfl rfl ?_
              refine L.known (t := 71) rfl (show _ = Value.bool false from congrArg Value.bool (decide_eq_false (by omega))) ?_
              refine L.guardF (dj := 71) (c := false) rfl rfl rfl rfl rfl (by decide) ?_
              refine L.guardF (dj := 71) (c := false) rfl rfl rfl rfl rfl (by decide) ?_
              refine L.guardF (dj := 71) (c := false) rfl rfl rfl rfl rfl (by decide) ?_
              refine L.pickF rfl rfl rfl ?_
              refine L.nil ?_
              refine T.thenN ?_
              exact T.toJoin ⟨_, ⟨(fun h => by cases h), (fun h => absurd h.1 (by omega))⟩, rfl, rfl, rfl⟩ (.cons (t := 75) rfl <| SubK.nil _) (.cons (t := 4) rfl <| .cons (t := 5) rfl <| .cons (t := 6) rfl <| .cons (t := 7) rfl <| SubK.nil _) qD qD qF
            · skip
              refine T.region ?_
              refine L.move rfl rfl ?_
              refine L.lenSl rfl Try.underlying26 rfl ?_
              refine L.gtI rfl rfl rfl ?_
              refine L.move rfl rfl ?_
              refine L.known (t := 71) rfl (show _ = Value.bool true from congrArg Value.bool (decide_eq_true (by omega))) ?_
              refine L.guardT (dj := 71) rfl rfl rfl ?_
              refine L.move rfl rfl ?_
              refine L.guardT (dj := 71) rfl rfl rfl ?_
              refine L.lenSl rfl Try.underlying100 rfl ?_
              refine L.guardT (dj := 71) rfl rfl rfl ?_
              refine L.eqI rfl rfl rfl ?_
              refine L.pickT rfl rfl rfl ?_
              refine L.nil ?_
              refine T.thenN ?_
              exact T.toJoin ⟨_, (by rw [decide_eq_true_eq]; exact ⟨fun h => ⟨h0, by omega⟩, fun h => by omega⟩), rfl, rfl, rfl⟩ (.cons (t := 75) rfl <| SubK.nil _) (.cons (t := 4) rfl <| .cons (t := 5) rfl <| .cons (t := 6) rfl <| .cons (t := 7) rfl <| SubK.nil _) qD qD qF
          rintro _ _ _ ⟨w15, hw15, rfl, rfl, rfl⟩
          refine T.norm3 qA qA qA ?_
          refine T.thenN ?_
          refine T.cond rfl (fun h75 => ?_) (fun h75 => ?_)
          · try simp only [decide_eq_true_eq, decide_eq_false_iff_not, Bool.not_eq_true', Bool.not_eq_false', Bool.and_eq_true, Bool.or_eq_true] at h75
            have hw5 := hw15.1 h75
            have hfin := hPI.brk hwt.1 hwt.2 (by omega) hw5.1 (by rw [hpk]; exact List.length_eq_zero_iff.1 (by omega))
            have hE := refP_end (by omega) hmk hfin
            refine T.exit ?_
            refine T.thenX ?_
            refine T.blkY rfl ?_
            refine T.thenX ?_
            refine T.thenX ?_
            refine T.blkX ?_
            refine T.thenN ?_
            refine T.seq ?_
            refine T.seq ?_
            refine T.region ?_
            refine L.loadA rfl ag99 rfl qN ?_
            refine L.callF rfl (evs.cons rfl <| evs.nil) qD qS (rclose_spec (b := bl)) (by rintro u D1 M1 ⟨rfl, rfl, rfl⟩; exact ⟨rfl, _, qA, qF⟩) ?_
            refine L.neI rfl rfl rfl ?_
            refine L.nil ?_
            refine T.thenN ?_
            refine T.cond rfl (fun h186 => ?_) (fun h186 => ?_)
            · try simp only [decide_eq_true_eq, decide_eq_false_iff_not, Bool.not_eq_true', Bool.not_eq_false', Bool.and_eq_true, Bool.or_eq_true] at h186
              refine T.seq ?_
              refine T.region ?_
              refine L.loadA rfl ag99 rfl qN ?_
              refine L.callF rfl (evs.cons rfl <| evs.nil) qD qS (rclose_spec (b := bl)) (by rintro u D1 M1 ⟨rfl, rfl, rfl⟩; exact ⟨rfl, _, qA, qF⟩) ?_
              refine L.assign rfl rfl ?_
              refine L.assign rfl rfl ?_
              refine L.nil ?_
              refine T.thenN ?_
              refine T.ret ?_
              refine T.thenR ?_
              have e0 : refP s = ([], closeE bl) := by rw [hE, if_pos h186]
              rw [e0]
              refine T.newOwn (sz := 7) (e := 67) ?_
              refine T.ownEq none (([] : List Nd).map nrow) qP (by rfl) ?_
              exact T.ret2 rfl rfl rfl ⟨none, 0, 0, rfl, rfl, rfl⟩ qD qF
            · try simp only [decide_eq_true_eq, decide_eq_false_iff_not, Bool.not_eq_true', Bool.not_eq_false', Bool.and_eq_true, Bool.or_eq_true] at h186
              refine T.skip ?_
              refine T.thenN ?_
              refine T.seq ?_
              refine T.seq ?_
              refine T.region ?_
              refine L.move rfl rfl ?_
              refine L.callB1 rfl (evs.cons rfl <| evs.nil) qS qP (fun z H => rsl_of_own H) (rchk_spec (l := l) (by omega) hPI.sm) ?_
              rintro _ _ _ ⟨rfl, rfl, rfl⟩
              refine L.norm AppL.nil qA ?_
              refine L.neI rfl rfl rfl ?_
              refine L.nil ?_
              refine T.thenN ?_
              refine T.cond rfl (fun h191 => ?_) (fun h191 => ?_)
              · try simp only [decide_eq_true_eq, decide_eq_false_iff_not, Bool.not_eq_true', Bool.not_eq_false', Bool.and_eq_true, Bool.or_eq_true] at h191
                refine T.seq ?_
                refine T.region ?_
                refine L.move rfl rfl ?_
                refine L.callB1 rfl (evs.cons rfl <| evs.nil) qS qP (fun z H => rsl_of_own H) (rchk_spec (l := l) (by omega) hPI.sm) ?_
                rintro _ _ _ ⟨rfl, rfl, rfl⟩
                refine L.norm AppL.nil qA ?_
                refine L.assign rfl rfl ?_
                refine L.assign rfl rfl ?_
                refine L.nil ?_
                refine T.thenN ?_
                refine T.ret ?_
                refine T.thenR ?_
                have e0 : refP s = ([], refChk l) := by rw [hE, if_neg h186, if_pos h191]
                rw [e0]
                refine T.newOwn (sz := 7) (e := 67) ?_
                refine T.ownEq none (([] : List Nd).map nrow) qP (by rfl) ?_
                exact T.ret2 rfl rfl rfl ⟨none, 0, 0, rfl, rfl, rfl⟩ qD qF
              · try simp only [decide_eq_true_eq, decide_eq_false_iff_not, Bool.not_eq_true', Bool.not_eq_false', Bool.and_eq_true, Bool.or_eq_true] at h191
                refine T.skip ?_
                refine T.thenN ?_
                refine T.seq ?_
                refine T.region ?_
                refine L.move rfl rfl ?_
                refine L.assign rfl rfl ?_
                refine L.assign rfl rfl ?_
                refine L.nil ?_
                refine T.thenN ?_
                refine T.ret ?_
                have e0 : refP s = (l, 0) := by rw [hE, if_neg h186, if_neg h191]
                rw [e0]
                exact T.ret2 rfl rfl rfl ⟨_, _, _, rfl, rfl, rfl⟩ qD qF
          · try simp only [decide_eq_true_eq, decide_eq_false_iff_not, Bool.not_eq_true', Bool.not_eq_false', Bool.and_eq_true, Bool.or_eq_true] at h75
            have hnb : ¬ (0 < tn ∧ popL Lq = []) := fun e => by rw [hpk] at e; rw [hw15.2 ⟨e.1, by rw [← hlk, e.2]; rfl⟩] at h75; cases h75
            refine T.skip ?_
            refine T.thenN ?_
            refine T.seq ?_
            refine T.region ?_
            refine L.move rfl rfl ?_
            refine L.lenSl rfl Try.underlying100 rfl ?_
            refine L.addN rfl rfl rfl (by omega) ?_
            refine L.build rfl bu67 (BP.one rfl rfl rfl <| BP.skip <| BP.skip <| BP.skip <| BP.skip <| BP.one rfl rfl rfl <| BP.one rfl rfl rfl <| BP.doneE (out := []) rfl) ?_
            refine L.alloc rfl ze67 (fun b9 => ?_)
            refine L.storeA ag67 rfl rfl qL qO qU qW ?_
            refine L.nil ?_
            refine T.clEq b9 [.int .i64 ((sk : Int) + 1), S [], .int .i64 0, S [], .bool false, .bool true, .bool true] qP (by rfl) ?_
            refine T.thenN ?_
            refine T.seq ?_
            refine T.seq ?_
            refine T.region ?_
            refine L.move rfl rfl ?_
            refine L.lenSl rfl Try.underlying100 rfl ?_
            refine L.gtI rfl rfl rfl ?_
            refine L.nil ?_
            refine T.thenN ?_
            refine T.cutC (fun K' D' M' => ∃ (sa2 : Option Addr) (sn2 sc2 : Nat) (nm : List UInt8) (z1 : Bl), ((nm, z1) = nmF Lk bl ∧ sk = sn2) ∧ K' = [(6, .slice sa2 sn2 sc2)] ∧ D' = [] ∧ M' = [cl b9 67 [.int .i64 ((sk : Int) + 1), S nm, .int .i64 0, S [], .bool false, .bool (fiF Lk), .bool (riF Lk nm)], cl b4 99 (blR (z1)), own 3 102 sa2 sn2 sc2 ((stF Lk nm).reverse.map opR)]) (M0 := [cl b9 67 [.int .i64 ((sk : Int) + 1), S [], .int .i64 0, S [], .bool false, .bool (true), .bool (true)], cl b4 99 (blR (bl)), own 3 102 sa sk sc ((Lk).reverse.map opR)]) (.cons (t := 4) rfl <| .cons (t := 5) rfl <| .cons (t := 7) rfl <| .cons (t := 9) rfl <| SubK.nil _) qS ?_ ?_
            · skip
              refine T.cond rfl (fun h82 => ?_) (fun h82 => ?_)
              · try simp only [decide_eq_true_eq, decide_eq_false_iff_not, Bool.not_eq_true', Bool.not_eq_false', Bool.and_eq_true, Bool.or_eq_true] at h82
                refine T.seq ?_
                obtain ⟨o, os, hLo⟩ : ∃ o os, Lk = o :: os := by
                  cases Lk with
                  | nil => simp only [List.length_nil] at hlk; omega
                  | cons o os => exact ⟨o, os, rfl⟩
                subst hLo
                have hrow := rev_last (o := o) (os := os) hlk
                have hob := hPk o (by simp)
                refine T.ownLen (rows := (o :: os).reverse.map opR) qM (fun _ hcap => ?_)
                refine T.ownNe (sz := 3) qM (by omega) (fun bs oo ha => ?_)
                subst ha
                refine T.region ?_
                refine L.move rfl rfl ?_
                refine L.move rfl rfl ?_
                refine L.lenSl rfl Try.underlying100 rfl ?_
                refine L.subN rfl rfl rfl (by omega) ?_
                rw [show (sk : Int) - 1 = ((sk - 1 : Nat) : Int) by omega]
                refine L.idxG (i := sk - 1) rfl Try.underlying100 sz102 rfl rfl (by first | rfl | omega | (simp; done)) qI ?_
                refine L.loadA rfl ag102 rfl qN ?_
                refine L.alloc rfl ze102 (fun b10 => ?_)
                refine L.storeA ag102 rfl rfl qL qO qU qW ?_
                refine L.nil ?_
                refine T.freeze (A := cl b10 102 (opR o)) qP ?_
                refine T.thenN ?_
                refine T.seq ?_
                refine T.region ?_
                refine L.loadA rfl ag99 rfl qN ?_
                refine L.callF rfl (evs.cons rfl <| evs.cons rfl <| evs.nil) qD qS (rtstr_spec (b := bl) (top := 24) (by decide)) (by rintro u D1 M1 ⟨rfl, rfl, rfl⟩; exact ⟨rfl, _, qA, qF⟩) ?_
                refine L.move rfl rfl ?_
                refine L.extract rfl rfl rfl ?_
                refine L.extract rfl rfl rfl ?_
                refine L.alloc rfl ze99 (fun b11 => ?_)
                refine L.storeA ag99 rfl rfl qL qO qU qW ?_
                refine L.assign rfl rfl ?_
                refine L.nil ?_
                refine T.thenN ?_
                refine T.seq ?_
                refine T.region ?_
                refine L.loadA rfl ag99 rfl qN ?_
                refine L.storeA ag99 rfl rfl qL qO qU qW ?_
                refine L.nil ?_
                refine T.thenN ?_
                refine T.seq ?_
                refine T.region ?_
                refine L.move rfl rfl ?_
                first | refine L.field0 rfl fo67_1 rfl ?_ | refine L.field rfl fo67_1 rfl ?_
                refine L.store sc9 rfl rfl rfl qU qE ?_
                refine L.nil ?_
                refine T.thenN ?_
                refine T.seq ?_
                refine T.region ?_
                first | refine L.field0 rfl fo102_2 rfl ?_ | refine L.field rfl fo102_2 rfl ?_
                refine L.load rfl sc4 rfl qC ?_
                refine L.notB rfl rfl ?_
                first | refine L.field0 rfl fo67_5 rfl ?_ | refine L.field rfl fo67_5 rfl ?_
                refine L.store sc4 rfl rfl rfl qU qE ?_
                refine L.nil ?_
                refine T.thenN ?_
                refine T.seq ?_
                refine T.cutC (fun K' D' M' => ∃ (rs : Bool), (rs = (o.any && bless o.last (strR bl 24).1)) ∧ K' = [] ∧ D' = [] ∧ M' = [cl b9 67 [.int .i64 ((sk : Int) + 1), S (strR bl 24).1, .int .i64 0, S [], .bool false, .bool (!o.any), .bool (rs)]]) (M0 := [cl b9 67 [.int .i64 ((sk : Int) + 1), S (strR bl 24).1, .int .i64 0, S [], .bool false, .bool (!o.any), .bool (true)]]) (.cons (t := 4) rfl <| .cons (t := 5) rfl <| .cons (t := 6) rfl <| .cons (t := 7) rfl <| .cons (t := 9) rfl <| .cons (t := 10) rfl <| .cons (t := 12) rfl <| SubK.nil _) qS ?_ ?_
                · skip
                  rcases Bool.eq_false_or_eq_true o.any with hoa | hoa
                  · skip
                    refine T.region ?_
                    first | refine L.field0 rfl fo102_2 rfl ?_ | refine L.field rfl fo102_2 rfl ?_
                    refine L.load rfl sc4 rfl qC ?_
                    refine L.move rfl rfl ?_
                    refine L.known (t := 103) rfl (show _ = Value.bool true from congrArg Value.bool (hoa)) ?_
                    refine L.guardT (dj := 103) rfl rfl rfl ?_
                    first | refine L.field0 rfl fo102_1 rfl ?_ | refine L.field rfl fo102_1 rfl ?_
                    refine L.guardT (dj := 103) rfl rfl rfl ?_
                    refine L.load rfl sc9 rfl qC ?_
                    refine L.guardT (dj := 103) rfl rfl rfl ?_
                    refine L.move rfl rfl ?_
                    refine L.guardT (dj := 103) rfl rfl rfl ?_
                    refine L.ltS rfl rfl rfl ?_
                    refine L.pickT rfl rfl rfl ?_
                    first | refine L.field0 rfl fo67_6 rfl ?_ | refine L.field rfl fo67_6 rfl ?_
                    refine L.store sc4 rfl rfl rfl qU qE ?_
                    refine L.nil ?_
                    refine T.thenN ?_
                    exact T.toJoin ⟨(bless o.last (strR bl 24).1), (by simp [hoa]), rfl, rfl, rfl⟩ (SubK.nil _) (.cons (t := 4) rfl <| .cons (t := 5) rfl <| .cons (t := 6) rfl <| .cons (t := 7) rfl <| .cons (t := 9) rfl <| .cons (t := 10) rfl <| .cons (t := 12) rfl <| SubK.nil _) qD qD qF
                  · skip
                    refine T.region ?_
                    first | refine L.field0 rfl fo102_2 rfl ?_ | refine L.field rfl fo102_2 rfl ?_
                    refine L.load rfl sc4 rfl qC ?_
                    refine L.move rfl rfl ?_
                    refine L.known (t := 103) rfl (show _ = Value.bool false from congrArg Value.bool (hoa)) ?_
                    refine L.guardF (dj := 103) (c := false) rfl rfl rfl rfl rfl (by decide) ?_
                    refine L.guardF (dj := 103) (c := false) rfl rfl rfl rfl rfl (by decide) ?_
                    refine L.guardF (dj := 103) (c := false) rfl rfl rfl rfl rfl (by decide) ?_
                    refine L.guardF (dj := 103) (c := false) rfl rfl rfl rfl rfl (by decide) ?_
                    refine L.pickF rfl rfl rfl ?_
                    first | refine L.field0 rfl fo67_6 rfl ?_ | refine L.field rfl fo67_6 rfl ?_
                    refine L.store sc4 rfl rfl rfl qU qE ?_
                    refine L.nil ?_
                    refine T.thenN ?_
                    exact T.toJoin ⟨false, (by simp [hoa]), rfl, rfl, rfl⟩ (SubK.nil _) (.cons (t := 4) rfl <| .cons (t := 5) rfl <| .cons (t := 6) rfl <| .cons (t := 7) rfl <| .cons (t := 9) rfl <| .cons (t := 10) rfl <| .cons (t := 12) rfl <| SubK.nil _) qD qD qF
                rintro _ _ _ ⟨rs, hrs, rfl, rfl, rfl⟩
                refine T.norm3 qA qA qA ?_
                refine T.thenN ?_
                refine T.cutC (fun K' D' M' => ∃ (sa1 : Option Addr) (sn1 sc1 : Nat), (sk = sn1) ∧ K' = [(6, .slice sa1 sn1 sc1)] ∧ D' = [] ∧ M' = [own 3 102 sa1 sn1 sc1 ((stF (o :: os) (strR bl 24).1).reverse.map opR), cl b9 67 [.int .i64 ((sk : Int) + 1), S (strR bl 24).1, .int .i64 0, S [], .bool false, .bool (fiF (o :: os)), .bool (riF (o :: os) (strR bl 24).1)]]) (M0 := [cl b9 67 [.int .i64 ((sk : Int) + 1), S (strR bl 24).1, .int .i64 0, S [], .bool false, .bool (!o.any), .bool (rs)], own 3 102 (some ⟨bs, oo, none⟩) sk sc ((o :: os).reverse.map opR)]) (.cons (t := 4) rfl <| .cons (t := 5) rfl <| .cons (t := 7) rfl <| .cons (t := 9) rfl <| SubK.nil _) qS ?_ ?_
                · skip
                  refine T.ownRsl (rows := (o :: os).reverse.map opR) qP ?_
                  refine T.derive (ψ := rsl 3 (some ⟨bs, oo, none⟩) (sk - 1) sc (os.reverse.map opR)) qM (fun z H => by have := rsl_to (h := sk - 1) (by omega) H; rw [rev_take hlk] at this; exact this) ?_
                  refine T.regionA (clsL [2, 1, 1, 1, 1, 1, 2, 1, 1, 1, 1, 1, 2, 2, 1]) (by kernel_rfl) ?_
                  refine A.takeP (i := 1) rfl rfl rfl rfl (by kernel_rfl) (by kernel_rfl) (by kernel_rfl) rfl qD ?_
                  refine L.move rfl rfl ?_
                  refine A.took ?_
                  refine A.takeP (i := 2) rfl rfl rfl rfl (by kernel_rfl) (by kernel_rfl) (by kernel_rfl) rfl qD ?_
                  refine L.move rfl rfl ?_
                  refine A.took ?_
                  refine A.takeP (i := 3) rfl rfl rfl rfl (by kernel_rfl) (by kernel_rfl) (by kernel_rfl) rfl qD ?_
                  refine L.lenSl rfl Try.underlying100 rfl ?_
                  refine A.took ?_
                  refine A.takeP (i := 4) rfl rfl rfl rfl (by kernel_rfl) (by kernel_rfl) (by kernel_rfl) rfl qD ?_
                  refine L.subN rfl rfl rfl (by omega) ?_
                  rw [show (sk : Int) - 1 = ((sk - 1 : Nat) : Int) by omega]
                  refine A.took ?_
                  refine A.takeP (i := 5) rfl rfl rfl rfl (by kernel_rfl) (by kernel_rfl) (by kernel_rfl) rfl qD ?_
                  refine L.sliceTo rfl Try.underlying100 sz102 rfl (Bd.at (x := sk - 1) rfl (by first | rfl | omega | (simp; done))) qI ?_
                  refine A.took ?_
                  refine A.takeP (i := 7) rfl rfl rfl rfl (by kernel_rfl) (by kernel_rfl) (by kernel_rfl) rfl qD ?_
                  first | refine L.field0 rfl fo102_0 rfl ?_ | refine L.field rfl fo102_0 rfl ?_
                  refine A.took ?_
                  refine A.takeP (i := 8) rfl rfl rfl rfl (by kernel_rfl) (by kernel_rfl) (by kernel_rfl) rfl qD ?_
                  refine L.load rfl sc3 rfl qC ?_
                  refine A.took ?_
                  refine A.takeP (i := 9) rfl rfl rfl rfl (by kernel_rfl) (by kernel_rfl) (by kernel_rfl) rfl qD ?_
                  refine L.subN rfl rfl rfl (by omega) ?_
                  refine A.took ?_
                  refine A.takeP (i := 10) rfl rfl rfl rfl (by kernel_rfl) (by kernel_rfl) (by kernel_rfl) rfl qD ?_
                  refine L.move rfl rfl ?_
                  refine A.took ?_
                  refine A.takeP (i := 11) rfl rfl rfl rfl (by kernel_rfl) (by kernel_rfl) (by kernel_rfl) rfl qD ?_
                  refine L.build rfl bu102 (BP.one rfl rfl rfl <| BP.one rfl rfl rfl <| BP.one rfl rfl rfl <| BP.doneE (out := []) rfl) ?_
                  refine A.took ?_
                  refine A.branch (is := [0, 12]) (by kernel_rfl) (by decide) (Each.cons rfl ?_ <| Each.cons rfl ?_ <| Each.nil) 
                  · skip
                    refine L.buildSlice rfl bs100 (by decide) (BP.doneE (out := []) rfl) (fun b110 => ?_)
                    refine L.toOwn (len := 0) (sz := 3) qP (rows := ([] : List Op).reverse.map opR) (by rfl) rfl (by simp) ?_
                    refine A.backT rfl qD ?_
                    refine A.branch (is := [6, 12]) (by kernel_rfl) (by decide) (Each.cons rfl ?_ <| Each.cons rfl ?_ <| Each.nil) 
                    · skip
                      refine L.appendR rfl Try.underlying100 Try.underlying100 el102 rfl rfl qP (rd_D qM) op_one qI qI (fun a116 c116 => ?_)
                      refine A.backT rfl qD ?_
                      refine A.branch (is := [12]) (by kernel_rfl) (by decide) (Each.cons rfl ?_ <| Each.nil) 
                      refine L.buildSlice rfl bs100 (by decide) (BP.agg rfl rfl (by first | with_reducible assumption | (simp; done) | (simp only [List.length_map]; with_reducible assumption) | (simp [*]; done) | rfl) (Nat.le_of_ble_eq_true rfl) qR <| BP.doneE (out := []) rfl) (fun b122 => ?_)
                      refine A.backT rfl qD ?_
                      refine A.branch (is := [13]) (by kernel_rfl) (by decide) (Each.cons rfl ?_ <| Each.nil) 
                      refine L.append1 rfl Try.underlying100 el102 rfl rfl qP qM rfl qO1 qI qI (fun a123 c123 => ?_)
                      refine A.backT rfl qD ?_
                      refine A.takeP (i := 14) rfl rfl rfl rfl (by kernel_rfl) (by kernel_rfl) (by kernel_rfl) rfl qD ?_
                      refine L.assign rfl rfl ?_
                      refine A.took ?_
                      refine A.done (by kernel_rfl) ?_
                      refine T.ownEq _ ((stF (o :: os) (strR bl 24).1).reverse.map opR) qP (by rw [stF, rev_push]; rfl) ?_
                      refine T.clEq b9 [.int .i64 ((sk : Int) + 1), S (strR bl 24).1, .int .i64 0, S [], .bool false, .bool (fiF (o :: os)), .bool (riF (o :: os) (strR bl 24).1)] qP (by rw [hrs]; rfl) ?_
                      refine T.thenN ?_
                      exact T.toJoin ⟨_, _, _, (by omega), rfl, rfl, rfl⟩ (.cons (t := 6) rfl <| SubK.nil _) (.cons (t := 4) rfl <| .cons (t := 5) rfl <| .cons (t := 7) rfl <| .cons (t := 9) rfl <| SubK.nil _) qD qD qF
                    · skip
                      refine L.buildSlice rfl bs100 (by decide) (BP.agg rfl rfl (by first | with_reducible assumption | (simp; done) | (simp only [List.length_map]; with_reducible assumption) | (simp [*]; done) | rfl) (Nat.le_of_ble_eq_true rfl) qR <| BP.doneE (out := []) rfl) (fun b122 => ?_)
                      refine A.backT rfl qD ?_
                      refine A.branch (is := [6]) (by kernel_rfl) (by decide) (Each.cons rfl ?_ <| Each.nil) 
                      refine L.appendR rfl Try.underlying100 Try.underlying100 el102 rfl rfl qP (rd_D qM) op_one qI qI (fun a116 c116 => ?_)
                      refine A.backT rfl qD ?_
                      refine A.branch (is := [13]) (by kernel_rfl) (by decide) (Each.cons rfl ?_ <| Each.nil) 
                      refine L.append1 rfl Try.underlying100 el102 rfl rfl qP qM rfl qO1 qI qI (fun a123 c123 => ?_)
                      refine A.backT rfl qD ?_
                      refine A.takeP (i := 14) rfl rfl rfl rfl (by kernel_rfl) (by kernel_rfl) (by kernel_rfl) rfl qD ?_
                      refine L.assign rfl rfl ?_
                      refine A.took ?_
                      refine A.done (by kernel_rfl) ?_
                      refine T.ownEq _ ((stF (o :: os) (strR bl 24).1).reverse.map opR) qP (by rw [stF, rev_push]; rfl) ?_
                      refine T.clEq b9 [.int .i64 ((sk : Int) + 1), S (strR bl 24).1, .int .i64 0, S [], .bool false, .bool (fiF (o :: os)), .bool (riF (o :: os) (strR bl 24).1)] qP (by rw [hrs]; rfl) ?_
                      refine T.thenN ?_
                      exact T.toJoin ⟨_, _, _, (by omega), rfl, rfl, rfl⟩ (.cons (t := 6) rfl <| SubK.nil _) (.cons (t := 4) rfl <| .cons (t := 5) rfl <| .cons (t := 7) rfl <| .cons (t := 9) rfl <| SubK.nil _) qD qD qF
                  · skip
                    refine L.buildSlice rfl bs100 (by decide) (BP.agg rfl rfl (by first | with_reducible assumption | (simp; done) | (simp only [List.length_map]; with_reducible assumption) | (simp [*]; done) | rfl) (Nat.le_of_ble_eq_true rfl) qR <| BP.doneE (out := []) rfl) (fun b122 => ?_)
                    refine A.backT rfl qD ?_
                    refine A.branch (is := [0]) (by kernel_rfl) (by decide) (Each.cons rfl ?_ <| Each.nil) 
                    refine L.buildSlice rfl bs100 (by decide) (BP.doneE (out := []) rfl) (fun b110 => ?_)
                    refine L.toOwn (len := 0) (sz := 3) qP (rows := ([] : List Op).reverse.map opR) (by rfl) rfl (by simp) ?_
                    refine A.backT rfl qD ?_
                    refine A.branch (is := [6]) (by kernel_rfl) (by decide) (Each.cons rfl ?_ <| Each.nil) 
                    refine L.appendR rfl Try.underlying100 Try.underlying100 el102 rfl rfl qP (rd_D qM) op_one qI qI (fun a116 c116 => ?_)
                    refine A.backT rfl qD ?_
                    refine A.branch (is := [13]) (by kernel_rfl) (by decide) (Each.cons rfl ?_ <| Each.nil) 
                    refine L.append1 rfl Try.underlying100 el102 rfl rfl qP qM rfl qO1 qI qI (fun a123 c123 => ?_)
                    refine A.backT rfl qD ?_
                    refine A.takeP (i := 14) rfl rfl rfl rfl (by kernel_rfl) (by kernel_rfl) (by kernel_rfl) rfl qD ?_
                    refine L.assign rfl rfl ?_
                    refine A.took ?_
                    refine A.done (by kernel_rfl) ?_
                    refine T.ownEq _ ((stF (o :: os) (strR bl 24).1).reverse.map opR) qP (by rw [stF, rev_push]; rfl) ?_
                    refine T.clEq b9 [.int .i64 ((sk : Int) + 1), S (strR bl 24).1, .int .i64 0, S [], .bool false, .bool (fiF (o :: os)), .bool (riF (o :: os) (strR bl 24).1)] qP (by rw [hrs]; rfl) ?_
                    refine T.thenN ?_
                    exact T.toJoin ⟨_, _, _, (by omega), rfl, rfl, rfl⟩ (.cons (t := 6) rfl <| SubK.nil _) (.cons (t := 4) rfl <| .cons (t := 5) rfl <| .cons (t := 7) rfl <| .cons (t := 9) rfl <| SubK.nil _) qD qD qF
                rintro _ _ _ ⟨sa1, sn1, sc1, hsn1, rfl, rfl, rfl⟩
                refine T.norm3 qA qA qA ?_
                subst hsn1
                refine T.thenN ?_
                exact T.toJoin ⟨_, _, _, (strR bl 24).1, (strR bl 24).2, ⟨rfl, by omega⟩, rfl, rfl, rfl⟩ (.cons (t := 6) rfl <| SubK.nil _) (.cons (t := 4) rfl <| .cons (t := 5) rfl <| .cons (t := 7) rfl <| .cons (t := 9) rfl <| SubK.nil _) qD qD qF
              · try simp only [decide_eq_true_eq, decide_eq_false_iff_not, Bool.not_eq_true', Bool.not_eq_false', Bool.and_eq_true, Bool.or_eq_true] at h82
                obtain rfl : Lk = [] := List.length_eq_zero_iff.1 (by omega)
                refine T.ownEq sa ((stF [] []).reverse.map opR) qP (by rfl) ?_
                refine T.clEq b9 [.int .i64 ((sk : Int) + 1), S [], .int .i64 0, S [], .bool false, .bool (fiF []), .bool (riF [] [])] qP (by rfl) ?_
                refine T.skip ?_
                refine T.thenN ?_
                exact T.toJoin ⟨sa, sk, sc, [], bl, ⟨rfl, rfl⟩, rfl, rfl, rfl⟩ (.cons (t := 6) rfl <| SubK.nil _) (.cons (t := 4) rfl <| .cons (t := 5) rfl <| .cons (t := 7) rfl <| .cons (t := 9) rfl <| SubK.nil _) qD qD qF
            rintro _ _ _ ⟨sa2, sn2, sc2, nm, z1, ⟨hnm, hsn2⟩, rfl, rfl, rfl⟩
            refine T.norm3 qA qA qA ?_
            subst hsn2
            refine T.thenN ?_
            refine T.seq ?_
            obtain ⟨kk, hkk⟩ : ∃ k, k = (intR z1 4).1 := ⟨_, rfl⟩
            obtain ⟨z2, hz2⟩ : ∃ k, k = (intR z1 4).2 := ⟨_, rfl⟩
            have hk4 := int_le z1 4
            rw [← hkk] at hk4
            refine T.region ?_
            refine L.loadA rfl ag99 rfl qN ?_
            refine L.callF rfl (evs.cons rfl <| evs.cons rfl <| evs.nil) qD qS (rint_spec (b := z1) (top := 4) (by decide)) (by rintro u D1 M1 ⟨rfl, rfl, rfl⟩; exact ⟨rfl, _, qA, qF⟩) ?_
            rw [← hkk, ← hz2]
            refine L.move rfl rfl ?_
            refine L.extract rfl rfl rfl ?_
            refine L.extract rfl rfl rfl ?_
            refine L.alloc rfl ze99 (fun b13 => ?_)
            refine L.storeA ag99 rfl rfl qL qO qU qW ?_
            refine L.assign rfl rfl ?_
            refine L.nil ?_
            refine T.thenN ?_
            refine T.seq ?_
            refine T.region ?_
            refine L.loadA rfl ag99 rfl qN ?_
            refine L.storeA ag99 rfl rfl qL qO qU qW ?_
            refine L.nil ?_
            refine T.thenN ?_
            refine T.seq ?_
            refine T.region ?_
            refine L.move rfl rfl ?_
            first | refine L.field0 rfl fo67_2 rfl ?_ | refine L.field rfl fo67_2 rfl ?_
            refine L.store sc3 rfl rfl rfl qU qE ?_
            refine L.nil ?_
            refine T.thenN ?_
            refine T.seq ?_
            refine T.seq ?_
            refine T.cutC (fun K' D' M' => ∃ (w28 : Bool), (w28 = true ↔ (z2.err = 0 ∧ (64 ≤ tn ∨ 8 < sk + 1))) ∧ K' = [(144, .bool w28)] ∧ D' = [] ∧ M' = []) (M0 := []) (.cons (t := 4) rfl <| .cons (t := 5) rfl <| .cons (t := 6) rfl <| .cons (t := 7) rfl <| .cons (t := 9) rfl <| .cons (t := 14) rfl <| SubK.nil _) qS ?_ ?_
            · skip
              rcases kb_cases z2 tn with hE | ⟨hE, h64⟩ | ⟨hE, h64⟩
              · skip
                refine T.region ?_
                first | refine L.field0 rfl fo99_1 rfl ?_ | refine L.field rfl fo99_1 rfl ?_
                refine L.load rfl sc3 rfl qC ?_
                refine L.eqI rfl rfl rfl ?_
                refine L.move rfl rfl ?_
                refine L.known (t := 135) rfl (show _ = Value.bool false from congrArg Value.bool (decide_eq_false hE)) ?_
                refine L.guardF (dj := 135) (c := false) rfl rfl rfl rfl rfl (by decide) ?_
                refine L.guardF (dj := 135) (c := false) rfl rfl rfl rfl rfl (by decide) ?_
                refine L.guardF (dj := 135) (c := false) rfl rfl rfl rfl rfl (by decide) ?_
                refine L.guardF (dj := 135) (c := false) rfl rfl rfl rfl rfl (by decide) ?_
                refine L.guardU (dj := 139) rfl rfl rfl rfl rfl ?_
                refine L.guardU (dj := 139) rfl rfl rfl rfl rfl ?_
                refine L.guardU (dj := 139) rfl rfl rfl rfl rfl ?_
                refine L.guardF (dj := 135) (c := false) rfl rfl rfl rfl rfl (by decide) ?_
                refine L.pickF rfl rfl rfl ?_
                refine L.nil ?_
                refine T.thenN ?_
                exact T.toJoin ⟨_, ⟨(fun h => by cases h), (fun h => absurd h.1 hE)⟩, rfl, rfl, rfl⟩ (.cons (t := 144) rfl <| SubK.nil _) (.cons (t := 4) rfl <| .cons (t := 5) rfl <| .cons (t := 6) rfl <| .cons (t := 7) rfl <| .cons (t := 9) rfl <| .cons (t := 14) rfl <| SubK.nil _) qD qD qF
              · skip
                refine T.region ?_
                first | refine L.field0 rfl fo99_1 rfl ?_ | refine L.field rfl fo99_1 rfl ?_
                refine L.load rfl sc3 rfl qC ?_
                refine L.eqI rfl rfl rfl ?_
                refine L.move rfl rfl ?_
                refine L.known (t := 135) rfl (show _ = Value.bool true from congrArg Value.bool (decide_eq_true hE)) ?_
                refine L.guardT (dj := 135) rfl rfl rfl ?_
                refine L.move rfl rfl ?_
                refine L.guardT (dj := 135) rfl rfl rfl ?_
                refine L.lenSl rfl Try.underlying26 rfl ?_
                refine L.guardT (dj := 135) rfl rfl rfl ?_
                refine L.geI rfl rfl rfl ?_
                refine L.guardT (dj := 135) rfl rfl rfl ?_
                refine L.move rfl rfl ?_
                refine L.known (t := 139) rfl (show _ = Value.bool true from congrArg Value.bool (decide_eq_true (by omega))) ?_
                refine L.guardF (dj := 139) (c := true) rfl rfl rfl rfl rfl (by decide) ?_
                refine L.guardF (dj := 139) (c := true) rfl rfl rfl rfl rfl (by decide) ?_
                refine L.guardF (dj := 139) (c := true) rfl rfl rfl rfl rfl (by decide) ?_
                refine L.guardT (dj := 135) rfl rfl rfl ?_
                refine L.pickT rfl rfl rfl ?_
                refine L.pickT rfl rfl rfl ?_
                refine L.nil ?_
                refine T.thenN ?_
                exact T.toJoin ⟨_, ⟨(fun _ => ⟨hE, .inl h64⟩), (fun _ => rfl)⟩, rfl, rfl, rfl⟩ (.cons (t := 144) rfl <| SubK.nil _) (.cons (t := 4) rfl <| .cons (t := 5) rfl <| .cons (t := 6) rfl <| .cons (t := 7) rfl <| .cons (t := 9) rfl <| .cons (t := 14) rfl <| SubK.nil _) qD qD qF
              · skip
                refine T.region ?_
                first | refine L.field0 rfl fo99_1 rfl ?_ | refine L.field rfl fo99_1 rfl ?_
                refine L.load rfl sc3 rfl qC ?_
                refine L.eqI rfl rfl rfl ?_
                refine L.move rfl rfl ?_
                refine L.known (t := 135) rfl (show _ = Value.bool true from congrArg Value.bool (decide_eq_true hE)) ?_
                refine L.guardT (dj := 135) rfl rfl rfl ?_
                refine L.move rfl rfl ?_
                refine L.guardT (dj := 135) rfl rfl rfl ?_
                refine L.lenSl rfl Try.underlying26 rfl ?_
                refine L.guardT (dj := 135) rfl rfl rfl ?_
                refine L.geI rfl rfl rfl ?_
                refine L.guardT (dj := 135) rfl rfl rfl ?_
                refine L.move rfl rfl ?_
                refine L.known (t := 139) rfl (show _ = Value.bool false from congrArg Value.bool (decide_eq_false (by omega))) ?_
                refine L.guardT (dj := 139) rfl rfl rfl ?_
                first | refine L.field0 rfl fo67_0 rfl ?_ | refine L.field rfl fo67_0 rfl ?_
                refine L.guardT (dj := 139) rfl rfl rfl ?_
                refine L.load rfl sc3 rfl qC ?_
                refine L.guardT (dj := 139) rfl rfl rfl ?_
                refine L.gtI rfl rfl rfl ?_
                refine L.guardT (dj := 135) rfl rfl rfl ?_
                refine L.pickF rfl rfl rfl ?_
                refine L.pickT rfl rfl rfl ?_
                refine L.nil ?_
                refine T.thenN ?_
                exact T.toJoin ⟨_, (by rw [decide_eq_true_eq]; exact ⟨fun h => ⟨hE, .inr (by omega)⟩, fun h => by rcases h.2 with q | q; exact absurd q h64; omega⟩), rfl, rfl, rfl⟩ (.cons (t := 144) rfl <| SubK.nil _) (.cons (t := 4) rfl <| .cons (t := 5) rfl <| .cons (t := 6) rfl <| .cons (t := 7) rfl <| .cons (t := 9) rfl <| .cons (t := 14) rfl <| SubK.nil _) qD qD qF
            rintro _ _ _ ⟨w28, hw28, rfl, rfl, rfl⟩
            refine T.norm3 qA qA qA ?_
            refine T.thenN ?_
            refine T.cutC (fun K' D' M' => ∃ (z3 : Bl), (z3 = kB tn (sk + 1) z2) ∧ K' = [] ∧ D' = [] ∧ M' = [cl b4 99 (blR (z3))]) (M0 := [cl b4 99 (blR (z2))]) (.cons (t := 4) rfl <| .cons (t := 5) rfl <| .cons (t := 6) rfl <| .cons (t := 7) rfl <| .cons (t := 9) rfl <| .cons (t := 14) rfl <| SubK.nil _) qS ?_ ?_
            · skip
              refine T.cond rfl (fun h144 => ?_) (fun h144 => ?_)
              · try simp only [decide_eq_true_eq, decide_eq_false_iff_not, Bool.not_eq_true', Bool.not_eq_false', Bool.and_eq_true, Bool.or_eq_true] at h144
                refine T.region ?_
                first | refine L.field0 rfl fo99_1 rfl ?_ | refine L.field rfl fo99_1 rfl ?_
                refine L.store sc3 rfl rfl rfl qU qE ?_
                refine L.nil ?_
                refine T.thenN ?_
                exact T.toJoin ⟨⟨z2.left, 5⟩, (by unfold kB; rw [if_pos (hw28.1 h144)]), rfl, rfl, rfl⟩ (SubK.nil _) (.cons (t := 4) rfl <| .cons (t := 5) rfl <| .cons (t := 6) rfl <| .cons (t := 7) rfl <| .cons (t := 9) rfl <| .cons (t := 14) rfl <| SubK.nil _) qD qD qF
              · try simp only [decide_eq_true_eq, decide_eq_false_iff_not, Bool.not_eq_true', Bool.not_eq_false', Bool.and_eq_true, Bool.or_eq_true] at h144
                refine T.skip ?_
                refine T.thenN ?_
                exact T.toJoin ⟨z2, (by unfold kB; rw [if_neg (fun e => by rw [hw28.2 e] at h144; cases h144)]), rfl, rfl, rfl⟩ (SubK.nil _) (.cons (t := 4) rfl <| .cons (t := 5) rfl <| .cons (t := 6) rfl <| .cons (t := 7) rfl <| .cons (t := 9) rfl <| .cons (t := 14) rfl <| SubK.nil _) qD qD qF
            rintro _ _ _ ⟨z3, hz3, rfl, rfl, rfl⟩
            refine T.norm3 qA qA qA ?_
            refine T.thenN ?_
            refine T.seq ?_
            refine T.seq ?_
            refine T.cutC (fun K' D' M' => ∃ (w30 : Bool), (w30 = true ↔ (z3.err = 0 ∧ kk = 0)) ∧ K' = [(152, .bool w30)] ∧ D' = [] ∧ M' = []) (M0 := []) (.cons (t := 4) rfl <| .cons (t := 5) rfl <| .cons (t := 6) rfl <| .cons (t := 7) rfl <| .cons (t := 9) rfl <| .cons (t := 14) rfl <| SubK.nil _) qS ?_ ?_
            · skip
              by_cases hE : z3.err = 0
              · skip
                refine T.region ?_
                first | refine L.field0 rfl fo99_1 rfl ?_ | refine L.field rfl fo99_1 rfl ?_
                refine L.load rfl sc3 rfl qC ?_
                refine L.eqI rfl rfl rfl ?_
                refine L.move rfl rfl ?_
                refine L.known (t := 149) rfl (show _ = Value.bool true from congrArg Value.bool (decide_eq_true hE)) ?_
                refine L.guardT (dj := 149) rfl rfl rfl ?_
                refine L.move rfl rfl ?_
                refine L.guardT (dj := 149) rfl rfl rfl ?_
                refine L.eqI rfl rfl rfl ?_
                refine L.pickT rfl rfl rfl ?_
                refine L.nil ?_
                refine T.thenN ?_
                exact T.toJoin ⟨_, (by rw [decide_eq_true_eq]; exact ⟨fun h => ⟨hE, by omega⟩, fun h => by omega⟩), rfl, rfl, rfl⟩ (.cons (t := 152) rfl <| SubK.nil _) (.cons (t := 4) rfl <| .cons (t := 5) rfl <| .cons (t := 6) rfl <| .cons (t := 7) rfl <| .cons (t := 9) rfl <| .cons (t := 14) rfl <| SubK.nil _) qD qD qF
              · skip
                refine T.region ?_
                first | refine L.field0 rfl fo99_1 rfl ?_ | refine L.field rfl fo99_1 rfl ?_
                refine L.load rfl sc3 rfl qC ?_
                refine L.eqI rfl rfl rfl ?_
                refine L.move rfl rfl ?_
                refine L.known (t := 149) rfl (show _ = Value.bool false from congrArg Value.bool (decide_eq_false hE)) ?_
                refine L.guardF (dj := 149) (c := false) rfl rfl rfl rfl rfl (by decide) ?_
                refine L.guardF (dj := 149) (c := false) rfl rfl rfl rfl rfl (by decide) ?_
                refine L.pickF rfl rfl rfl ?_
                refine L.nil ?_
                refine T.thenN ?_
                exact T.toJoin ⟨_, ⟨(fun h => by cases h), (fun h => absurd h.1 hE)⟩, rfl, rfl, rfl⟩ (.cons (t := 152) rfl <| SubK.nil _) (.cons (t := 4) rfl <| .cons (t := 5) rfl <| .cons (t := 6) rfl <| .cons (t := 7) rfl <| .cons (t := 9) rfl <| .cons (t := 14) rfl <| SubK.nil _) qD qD qF
            rintro _ _ _ ⟨w30, hw30, rfl, rfl, rfl⟩
            refine T.norm3 qA qA qA ?_
            refine T.thenN ?_
            refine T.cutC (fun K' D' M' => ∃ (z4 : Bl), (z4 = kC kk z3) ∧ K' = [] ∧ D' = [] ∧ M' = [cl b4 99 (blR (z4))]) (M0 := [cl b4 99 (blR (z3))]) (.cons (t := 4) rfl <| .cons (t := 5) rfl <| .cons (t := 6) rfl <| .cons (t := 7) rfl <| .cons (t := 9) rfl <| .cons (t := 14) rfl <| SubK.nil _) qS ?_ ?_
            · skip
              refine T.cond rfl (fun h152 => ?_) (fun h152 => ?_)
              · try simp only [decide_eq_true_eq, decide_eq_false_iff_not, Bool.not_eq_true', Bool.not_eq_false', Bool.and_eq_true, Bool.or_eq_true] at h152
                refine T.region ?_
                first | refine L.field0 rfl fo99_1 rfl ?_ | refine L.field rfl fo99_1 rfl ?_
                refine L.store sc3 rfl rfl rfl qU qE ?_
                refine L.nil ?_
                refine T.thenN ?_
                exact T.toJoin ⟨⟨z3.left, 2⟩, (by unfold kC; rw [if_pos (hw30.1 h152)]), rfl, rfl, rfl⟩ (SubK.nil _) (.cons (t := 4) rfl <| .cons (t := 5) rfl <| .cons (t := 6) rfl <| .cons (t := 7) rfl <| .cons (t := 9) rfl <| .cons (t := 14) rfl <| SubK.nil _) qD qD qF
              · try simp only [decide_eq_true_eq, decide_eq_false_iff_not, Bool.not_eq_true', Bool.not_eq_false', Bool.and_eq_true, Bool.or_eq_true] at h152
                refine T.skip ?_
                refine T.thenN ?_
                exact T.toJoin ⟨z3, (by unfold kC; rw [if_neg (fun e => by rw [hw30.2 e] at h152; cases h152)]), rfl, rfl, rfl⟩ (SubK.nil _) (.cons (t := 4) rfl <| .cons (t := 5) rfl <| .cons (t := 6) rfl <| .cons (t := 7) rfl <| .cons (t := 9) rfl <| .cons (t := 14) rfl <| SubK.nil _) qD qD qF
            rintro _ _ _ ⟨z4, hz4, rfl, rfl, rfl⟩
            refine T.norm3 qA qA qA ?_
            have hzc := step_c (ln := tn) (L := Lk) (b := bl) hnm hkk hz2 (by rw [hlk]; exact hz3) hz4
            refine T.thenN ?_
            refine T.seq ?_
            refine T.seq ?_
            refine T.region ?_
            refine L.move rfl rfl ?_
            refine L.eqI rfl rfl rfl ?_
            refine L.nil ?_
            refine T.thenN ?_
            refine T.cutC (fun K' D' M' => ∃ (sa3 : Option Addr) (sn3 sc3 : Nat) (z5 : Bl) (fl : Bool) (tx : List UInt8) (L3 : List Op), (((⟨sk + 1, nm, (kk : Int), tx, fl, fiF Lk, riF Lk nm⟩ : Nd), L3, z5) = stepF tn Lk bl ∧ L3.length = sn3) ∧ K' = [(6, .slice sa3 sn3 sc3)] ∧ D' = [] ∧ M' = [cl b9 67 [.int .i64 ((sk : Int) + 1), S nm, .int .i64 (kk : Int), S tx, .bool fl, .bool (fiF Lk), .bool (riF Lk nm)], cl b4 99 (blR (z5)), own 3 102 sa3 sn3 sc3 ((L3).reverse.map opR)]) (M0 := [cl b9 67 [.int .i64 ((sk : Int) + 1), S nm, .int .i64 (kk : Int), S [], .bool false, .bool (fiF Lk), .bool (riF Lk nm)], cl b4 99 (blR (z4)), own 3 102 sa2 sk sc2 ((stF Lk nm).reverse.map opR)]) (.cons (t := 4) rfl <| .cons (t := 5) rfl <| .cons (t := 7) rfl <| .cons (t := 9) rfl <| SubK.nil _) qS ?_ ?_
            · skip
              refine T.cond rfl (fun h155 => ?_) (fun h155 => ?_)
              · try simp only [decide_eq_true_eq, decide_eq_false_iff_not, Bool.not_eq_true', Bool.not_eq_false', Bool.and_eq_true, Bool.or_eq_true] at h155
                refine T.seq ?_
                refine T.region ?_
                refine L.loadA rfl ag99 rfl qN ?_
                refine L.callF rfl (evs.cons rfl <| evs.cons rfl <| evs.nil) qD qS (rint_spec (b := z4) (top := 64) (by decide)) (by rintro u D1 M1 ⟨rfl, rfl, rfl⟩; exact ⟨rfl, _, qA, qF⟩) ?_
                refine L.move rfl rfl ?_
                refine L.extract rfl rfl rfl ?_
                refine L.extract rfl rfl rfl ?_
                refine L.alloc rfl ze99 (fun b15 => ?_)
                refine L.storeA ag99 rfl rfl qL qO qU qW ?_
                refine L.assign rfl rfl ?_
                refine L.nil ?_
                refine T.thenN ?_
                refine T.seq ?_
                refine T.region ?_
                refine L.loadA rfl ag99 rfl qN ?_
                refine L.storeA ag99 rfl rfl qL qO qU qW ?_
                refine L.nil ?_
                refine T.thenN ?_
                refine T.seq ?_
                refine T.region ?_
                refine L.move rfl rfl ?_
                refine L.gtI rfl rfl rfl ?_
                rw [show decide ((0 : Int) < ((intR z4 64).1 : Int)) = decide (0 < (intR z4 64).1) from by simp]
                first | refine L.field0 rfl fo67_4 rfl ?_ | refine L.field rfl fo67_4 rfl ?_
                refine L.store sc4 rfl rfl rfl qU qE ?_
                refine L.nil ?_
                refine T.thenN ?_
                refine T.region ?_
                refine L.buildSlice rfl bs100 (by decide) (BP.doneE (out := []) rfl) (fun b165 => ?_)
                refine L.toOwn (len := 0) (sz := 3) qP (rows := ([] : List Op).reverse.map opR) (by rfl) rfl (by simp) ?_
                refine L.move rfl rfl ?_
                refine L.appendR rfl Try.underlying100 Try.underlying100 el102 rfl rfl qP (rd_M qM) op_one qI qI (fun a167 c167 => ?_)
                refine L.move rfl rfl ?_
                refine L.build rfl bu102 (BP.one rfl rfl rfl <| BP.doneE (out := [S [], Value.bool false]) rfl) ?_
                refine L.buildSlice rfl bs100 (by decide) (BP.agg rfl rfl (by first | with_reducible assumption | (simp; done) | (simp only [List.length_map]; with_reducible assumption) | (simp [*]; done) | rfl) (Nat.le_of_ble_eq_true rfl) qR <| BP.doneE (out := []) rfl) (fun b170 => ?_)
                refine L.append1 rfl Try.underlying100 el102 rfl rfl qP qM rfl qO1 qI qI (fun a171 c171 => ?_)
                refine L.assign rfl rfl ?_
                refine L.nil ?_
                refine T.ownEq _ ((⟨(intR z4 64).1, [], false⟩ :: stF Lk nm : List Op).reverse.map opR) qP (by rw [rev_push]; rfl) ?_
                refine T.thenN ?_
                exact T.toJoin ⟨_, _, _, (intR z4 64).2, decide (0 < (intR z4 64).1), [], ⟨(intR z4 64).1, [], false⟩ :: stF Lk nm, ⟨step_dir hnm hkk hzc (by omega) (by omega), by simp only [List.length_cons, stF_len]; omega⟩, rfl, rfl, rfl⟩ (.cons (t := 6) rfl <| SubK.nil _) (.cons (t := 4) rfl <| .cons (t := 5) rfl <| .cons (t := 7) rfl <| .cons (t := 9) rfl <| SubK.nil _) qD qD qF
              · try simp only [decide_eq_true_eq, decide_eq_false_iff_not, Bool.not_eq_true', Bool.not_eq_false', Bool.and_eq_true, Bool.or_eq_true] at h155
                refine T.seq ?_
                refine T.region ?_
                refine L.loadA rfl ag99 rfl qN ?_
                refine L.callF rfl (evs.cons rfl <| evs.cons rfl <| evs.nil) qD qS (rtstr_spec (b := z4) (top := 8192) (by decide)) (by rintro u D1 M1 ⟨rfl, rfl, rfl⟩; exact ⟨rfl, _, qA, qF⟩) ?_
                refine L.move rfl rfl ?_
                refine L.extract rfl rfl rfl ?_
                refine L.extract rfl rfl rfl ?_
                refine L.alloc rfl ze99 (fun b17 => ?_)
                refine L.storeA ag99 rfl rfl qL qO qU qW ?_
                refine L.assign rfl rfl ?_
                refine L.nil ?_
                refine T.thenN ?_
                refine T.seq ?_
                refine T.region ?_
                refine L.loadA rfl ag99 rfl qN ?_
                refine L.storeA ag99 rfl rfl qL qO qU qW ?_
                refine L.nil ?_
                refine T.thenN ?_
                refine T.region ?_
                refine L.move rfl rfl ?_
                first | refine L.field0 rfl fo67_3 rfl ?_ | refine L.field rfl fo67_3 rfl ?_
                refine L.store sc9 rfl rfl rfl qU qE ?_
                refine L.nil ?_
                refine T.thenN ?_
                exact T.toJoin ⟨_, _, _, (strR z4 8192).2, false, (strR z4 8192).1, stF Lk nm, ⟨step_file hnm hkk hzc (by omega) (by omega), by rw [stF_len]; omega⟩, rfl, rfl, rfl⟩ (.cons (t := 6) rfl <| SubK.nil _) (.cons (t := 4) rfl <| .cons (t := 5) rfl <| .cons (t := 7) rfl <| .cons (t := 9) rfl <| SubK.nil _) qD qD qF
            rintro _ _ _ ⟨sa3, sn3, sc3, z5, fl, tx, L3, ⟨hstp, hL3⟩, rfl, rfl, rfl⟩
            refine T.norm3 qA qA qA ?_
            refine T.thenN ?_
            refine T.region ?_
            refine L.move rfl rfl ?_
            refine L.loadA rfl ag67 rfl qN ?_
            refine L.buildSlice rfl bs26 (by decide) (BP.agg rfl rfl (by first | with_reducible assumption | (simp; done) | (simp only [List.length_map]; with_reducible assumption) | (simp [*]; done) | rfl) (Nat.le_of_ble_eq_true rfl) qR <| BP.doneE (out := []) rfl) (fun b182 => ?_)
            refine L.append1 rfl Try.underlying26 el67 rfl rfl qP qM rfl qO1 qI qI (fun a183 c183 => ?_)
            refine L.assign rfl rfl ?_
            refine L.nil ?_
            refine T.blkN ?_
            refine T.thenN ?_
            refine T.region ?_
            refine L.move rfl rfl ?_
            refine L.addN rfl rfl rfl (by omega) ?_
            refine L.assign rfl rfl ?_
            refine L.nil ?_
            refine T.thenN ?_
            refine T.ownEq _ ((l ++ [(⟨sk + 1, nm, (kk : Int), tx, fl, fiF Lk, riF Lk nm⟩ : Nd)]).map nrow) qP (by rw [List.map_append]; rfl) ?_
            exact T.back ⟨tn + 1, ln + 1, _, sn3, _, _, _, l ++ [⟨sk + 1, nm, (kk : Int), tx, fl, fiF Lk, riF Lk nm⟩], L3, z5, ⟨⟨by omega, by omega, by simp [hll], hL3⟩, hPI.step hwt.1 hwt.2 (by omega) hnb (by rw [hpk]; exact hstp)⟩, rfl, rfl, rfl, rfl⟩ qI (.cons (t := 7) rfl <| .cons (t := 5) rfl <| .cons (t := 6) rfl <| SubK.nil _) (.cons (t := 4) rfl <| SubK.nil _) qD qD qF
      · try simp only [decide_eq_true_eq, decide_eq_false_iff_not, Bool.not_eq_true', Bool.not_eq_false', Bool.and_eq_true, Bool.or_eq_true] at h41
        have hfin := hPI.stop (by omega) (fun e => by rw [hw9.2 e] at h41; cases h41)
        have hE := refP_end (by omega) hmk hfin
        refine T.exit ?_
        refine T.thenX ?_
        refine T.thenX ?_
        refine T.blkX ?_
        refine T.thenN ?_
        refine T.seq ?_
        refine T.seq ?_
        refine T.region ?_
        refine L.loadA rfl ag99 rfl qN ?_
        refine L.callF rfl (evs.cons rfl <| evs.nil) qD qS (rclose_spec (b := bl)) (by rintro u D1 M1 ⟨rfl, rfl, rfl⟩; exact ⟨rfl, _, qA, qF⟩) ?_
        refine L.neI rfl rfl rfl ?_
        refine L.nil ?_
        refine T.thenN ?_
        refine T.cond rfl (fun h186 => ?_) (fun h186 => ?_)
        · try simp only [decide_eq_true_eq, decide_eq_false_iff_not, Bool.not_eq_true', Bool.not_eq_false', Bool.and_eq_true, Bool.or_eq_true] at h186
          refine T.seq ?_
          refine T.region ?_
          refine L.loadA rfl ag99 rfl qN ?_
          refine L.callF rfl (evs.cons rfl <| evs.nil) qD qS (rclose_spec (b := bl)) (by rintro u D1 M1 ⟨rfl, rfl, rfl⟩; exact ⟨rfl, _, qA, qF⟩) ?_
          refine L.assign rfl rfl ?_
          refine L.assign rfl rfl ?_
          refine L.nil ?_
          refine T.thenN ?_
          refine T.ret ?_
          refine T.thenR ?_
          have e0 : refP s = ([], closeE bl) := by rw [hE, if_pos h186]
          rw [e0]
          refine T.newOwn (sz := 7) (e := 67) ?_
          refine T.ownEq none (([] : List Nd).map nrow) qP (by rfl) ?_
          exact T.ret2 rfl rfl rfl ⟨none, 0, 0, rfl, rfl, rfl⟩ qD qF
        · try simp only [decide_eq_true_eq, decide_eq_false_iff_not, Bool.not_eq_true', Bool.not_eq_false', Bool.and_eq_true, Bool.or_eq_true] at h186
          refine T.skip ?_
          refine T.thenN ?_
          refine T.seq ?_
          refine T.seq ?_
          refine T.region ?_
          refine L.move rfl rfl ?_
          refine L.callB1 rfl (evs.cons rfl <| evs.nil) qS qP (fun z H => rsl_of_own H) (rchk_spec (l := l) (by omega) hPI.sm) ?_
          rintro _ _ _ ⟨rfl, rfl, rfl⟩
          refine L.norm AppL.nil qA ?_
          refine L.neI rfl rfl rfl ?_
          refine L.nil ?_
          refine T.thenN ?_
          refine T.cond rfl (fun h191 => ?_) (fun h191 => ?_)
          · try simp only [decide_eq_true_eq, decide_eq_false_iff_not, Bool.not_eq_true', Bool.not_eq_false', Bool.and_eq_true, Bool.or_eq_true] at h191
            refine T.seq ?_
            refine T.region ?_
            refine L.move rfl rfl ?_
            refine L.callB1 rfl (evs.cons rfl <| evs.nil) qS qP (fun z H => rsl_of_own H) (rchk_spec (l := l) (by omega) hPI.sm) ?_
            rintro _ _ _ ⟨rfl, rfl, rfl⟩
            refine L.norm AppL.nil qA ?_
            refine L.assign rfl rfl ?_
            refine L.assign rfl rfl ?_
            refine L.nil ?_
            refine T.thenN ?_
            refine T.ret ?_
            refine T.thenR ?_
            have e0 : refP s = ([], refChk l) := by rw [hE, if_neg h186, if_pos h191]
            rw [e0]
            refine T.newOwn (sz := 7) (e := 67) ?_
            refine T.ownEq none (([] : List Nd).map nrow) qP (by rfl) ?_
            exact T.ret2 rfl rfl rfl ⟨none, 0, 0, rfl, rfl, rfl⟩ qD qF
          · try simp only [decide_eq_true_eq, decide_eq_false_iff_not, Bool.not_eq_true', Bool.not_eq_false', Bool.and_eq_true, Bool.or_eq_true] at h191
            refine T.skip ?_
            refine T.thenN ?_
            refine T.seq ?_
            refine T.region ?_
            refine L.move rfl rfl ?_
            refine L.assign rfl rfl ?_
            refine L.assign rfl rfl ?_
            refine L.nil ?_
            refine T.thenN ?_
            refine T.ret ?_
            have e0 : refP s = (l, 0) := by rw [hE, if_neg h186, if_neg h191]
            rw [e0]
            exact T.ret2 rfl rfl rfl ⟨_, _, _, rfl, rfl, rfl⟩ qD qF
end Cv
