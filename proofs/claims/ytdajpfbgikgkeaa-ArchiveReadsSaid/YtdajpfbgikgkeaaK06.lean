/-
  The walks: Parse, awake.
-/
import Derived.Test.YtdajpfbgikgkeaaI06
import Derived.Test.YtdajpfbgikgkeaaG06
import Derived.Test.YtdajpfbgikgkeaaP06
import Derived.Test.YtdajpfbgikgkeaaD06
import Derived.Test.YtdajpfbgikgkeaaO05
import Derived.Test.YtdajpfbgikgkeaaProg
import Derived.KernelRfl
set_option linter.unusedVariables false
set_option linter.unusedSimpArgs false
set_option linter.unusedSectionVars false
set_option maxRecDepth 10000
namespace Cv
open Go Go.Proofs
theorem zv96 : ∀ w, (zeroValue 96).run Try.prog w = .ok (Value.agg #[Value.pointer none, Value.int .i64 0]) w := fun w => by kernel_rfl
theorem bu96 : Bu Try.prog 96 [Value.pointer none, Value.int .i64 0] (fun (i : Nat) => ([(0, 1), (1, 1)] : List (Nat × Nat))[i]?) := bu_of Try.underlying96 zv96 rfl (fun w => by kernel_rfl)
theorem cutm_spec {s : List UInt8} : Spec Try.prog 60 [S s, S [99, 114, 118, 1]] [] [] (fun v D' M' => v = .tuple #[S (cpF s), .bool (decide (s.take 4 = mark))] ∧ D' = [] ∧ M' = []) := cutp_spec (s := s) (m := [99, 114, 118, 1])
set_option maxHeartbeats 400000 in
theorem parse_spec {s : List UInt8} (hs : s.length ≤ 1000000000) : Spec Try.prog 35 [S s] [] [] (fun v D' M' => ∃ (a' : Option Addr) (len' cap' : Nat), v = .tuple #[.agg (iRow (parF s).1 a' len' cap').toArray, .int .i64 (parF s).2] ∧ D' = [rtr (parF s).1 (eRow (parF s).1 a' len' cap')] ∧ M' = []) := by
  refine Spec.intro (n := 44) Try.func35 rfl rfl (by decide) (Nat.le_of_ble_eq_true rfl) rfl (fun _ => qA) (fun _ => qA) ?_
  intro σ D M
  refine T.seq ?_
  refine T.region ?_
  refine L.alloc rfl ze24 (fun b2 => ?_)
  refine L.assign rfl rfl ?_
  refine L.nil ?_
  refine T.thenN ?_
  refine T.seq ?_
  refine T.seq ?_
  refine T.region ?_
  refine L.move rfl rfl ?_
  refine L.lenStr rfl Try.underlying9 rfl ?_
  refine L.gtI rfl rfl rfl ?_
  refine L.nil ?_
  refine T.thenN ?_
  refine T.cond rfl (fun h12 => ?_) (fun h12 => ?_)
  · try simp only [decide_eq_true_eq, decide_eq_false_iff_not, Bool.not_eq_true', Bool.not_eq_false', Bool.and_eq_true, Bool.or_eq_true] at h12
    refine T.seq ?_
    refine T.region ?_
    refine L.build rfl bu24 (BP.doneE (out := [Value.int .i64 0, S [], Value.slice none 0 0]) rfl) ?_
    refine L.storeA ag24 rfl rfl qL qO qU qW ?_
    refine L.assign rfl rfl ?_
    refine L.nil ?_
    refine T.thenN ?_
    refine T.ret ?_
    refine T.thenR ?_
    have e0 : parF s = (.mk [] 0 [] [], 5) := by unfold parF; rw [if_pos (by omega)]
    rw [e0]
    refine T.fact0 (φ := rtr (.mk [] 0 [] []) (eRow (.mk [] 0 [] []) none 0 0)) (fun z => rt_leaf) ?_
    exact T.retAT rfl ag24 rfl qN rfl ⟨none, 0, 0, rfl, rfl, rfl⟩ qD qF
  · try simp only [decide_eq_true_eq, decide_eq_false_iff_not, Bool.not_eq_true', Bool.not_eq_false', Bool.and_eq_true, Bool.or_eq_true] at h12
    refine T.skip ?_
    refine T.thenN ?_
    refine T.seq ?_
    refine T.region ?_
    refine L.move rfl rfl ?_
    refine L.callF rfl (evs.cons rfl <| evs.cons rfl <| evs.nil) qD qS (cutm_spec (s := s)) (by rintro u D1 M1 ⟨rfl, rfl, rfl⟩; exact ⟨rfl, _, qA, qF⟩) ?_
    refine L.move rfl rfl ?_
    refine L.extract rfl rfl rfl ?_
    refine L.extract rfl rfl rfl ?_
    refine L.assign rfl rfl ?_
    refine L.assign rfl rfl ?_
    refine L.nil ?_
    refine T.thenN ?_
    refine T.seq ?_
    refine T.seq ?_
    refine T.region ?_
    refine L.move rfl rfl ?_
    refine L.notB rfl rfl ?_
    refine L.nil ?_
    refine T.thenN ?_
    refine T.cond rfl (fun h20 => ?_) (fun h20 => ?_)
    · try simp only [decide_eq_true_eq, decide_eq_false_iff_not, Bool.not_eq_true', Bool.not_eq_false', Bool.and_eq_true, Bool.or_eq_true] at h20
      refine T.seq ?_
      refine T.region ?_
      refine L.build rfl bu24 (BP.doneE (out := [Value.int .i64 0, S [], Value.slice none 0 0]) rfl) ?_
      refine L.storeA ag24 rfl rfl qL qO qU qW ?_
      refine L.assign rfl rfl ?_
      refine L.nil ?_
      refine T.thenN ?_
      refine T.ret ?_
      refine T.thenR ?_
      have e0 : parF s = (.mk [] 0 [] [], 2) := by unfold parF; rw [if_neg (by omega), if_pos (by simpa using h20)]
      rw [e0]
      refine T.fact0 (φ := rtr (.mk [] 0 [] []) (eRow (.mk [] 0 [] []) none 0 0)) (fun z => rt_leaf) ?_
      exact T.retAT rfl ag24 rfl qN rfl ⟨none, 0, 0, rfl, rfl, rfl⟩ qD qF
    · try simp only [decide_eq_true_eq, decide_eq_false_iff_not, Bool.not_eq_true', Bool.not_eq_false', Bool.and_eq_true, Bool.or_eq_true] at h20
      have hpr : s.take 4 = mark := by simpa using h20
      rw [cpF_yes hpr]
      refine T.skip ?_
      refine T.thenN ?_
      refine T.seq ?_
      refine T.region ?_
      refine L.move rfl rfl ?_
      refine L.call rfl (evs.cons rfl <| evs.nil) qD qS (bopen_spec (s := s.drop 4)) ?_
      rintro _ _ _ ⟨bb, rfl, rfl, rfl⟩
      refine L.norm qA qA ?_
      refine L.build rfl bu96 (BP.one rfl rfl rfl <| BP.one rfl rfl rfl <| BP.doneE (out := []) rfl) ?_
      refine L.box rfl rfl rfl (fun b25 => ?_)
      refine L.assign rfl rfl ?_
      refine L.nil ?_
      refine T.thenN ?_
      refine T.seq ?_
      refine T.region ?_
      refine L.move rfl rfl ?_
      refine L.call rfl (evs.cons rfl <| evs.cons rfl <| evs.nil) qD qS (item_spec 9 1 b25 bb 64 ⟨s.drop 4, 0⟩ (by decide) (by decide) (by decide) (by decide)) ?_
      rintro _ _ _ ⟨fa, fl, fc, rfl, rfl, rfl⟩
      refine L.norm qA qA ?_
      refine L.alloc rfl ze24 (fun b7 => ?_)
      refine L.storeA ag24 rfl rfl qL qO qU qW ?_
      refine L.nil ?_
      refine T.thenN ?_
      refine T.seq ?_
      refine T.seq ?_
      refine T.region ?_
      refine L.move rfl rfl ?_
      refine L.nilCheck rfl rfl ?_
      first | refine L.field0 rfl fo96_0 rfl ?_ | refine L.field rfl fo96_0 rfl ?_
      refine L.load rfl sc93 rfl qC ?_
      refine L.call rfl (evs.cons rfl <| evs.nil) qD qS (bclose_spec (b := (itemF 9 1 64 ⟨s.drop 4, 0⟩).2.2)) ?_
      rintro _ _ _ ⟨rfl, rfl, rfl⟩
      refine L.norm qA qA ?_
      refine L.assign rfl rfl ?_
      refine L.nil ?_
      refine T.thenN ?_
      refine T.seq ?_
      refine T.region ?_
      refine L.move rfl rfl ?_
      refine L.neI rfl rfl rfl ?_
      refine L.nil ?_
      refine T.thenN ?_
      refine T.cond rfl (fun h34 => ?_) (fun h34 => ?_)
      · try simp only [decide_eq_true_eq, decide_eq_false_iff_not, Bool.not_eq_true', Bool.not_eq_false', Bool.and_eq_true, Bool.or_eq_true] at h34
        refine T.seq ?_
        refine T.region ?_
        refine L.build rfl bu24 (BP.doneE (out := [Value.int .i64 0, S [], Value.slice none 0 0]) rfl) ?_
        refine L.move rfl rfl ?_
        refine L.storeA ag24 rfl rfl qL qO qU qW ?_
        refine L.assign rfl rfl ?_
        refine L.nil ?_
        refine T.thenN ?_
        refine T.ret ?_
        refine T.thenR ?_
        have e0 : parF s = (.mk [] 0 [] [], closeE (itemF 9 1 64 ⟨s.drop 4, 0⟩).2.2) := by unfold parF; rw [if_neg (by omega), if_neg (fun e => e hpr), if_pos h34]
        rw [e0]
        refine T.fact0 (φ := rtr (.mk [] 0 [] []) (eRow (.mk [] 0 [] []) none 0 0)) (fun z => rt_leaf) ?_
        exact T.retAT rfl ag24 rfl qN rfl ⟨none, 0, 0, rfl, rfl, rfl⟩ qD qF
      · try simp only [decide_eq_true_eq, decide_eq_false_iff_not, Bool.not_eq_true', Bool.not_eq_false', Bool.and_eq_true, Bool.or_eq_true] at h34
        have hcl : closeE (itemF 9 1 64 ⟨s.drop 4, 0⟩).2.2 = 0 := Decidable.not_not.1 h34
        have hio := item_ok 9 1 64 ⟨s.drop 4, 0⟩ (by decide) (by decide)
        have hcn := hio.cnt
        have hlw := (hio.low (by decide)).1
        refine T.skip ?_
        refine T.thenN ?_
        refine T.seq ?_
        refine T.seq ?_
        refine T.region ?_
        refine L.loadA rfl ag24 rfl qN ?_
        refine L.callF rfl (evs.cons rfl <| evs.nil) qD qS (Chk_spec (x := (itemF 9 1 64 ⟨s.drop 4, 0⟩).1) _ _ _ (by omega) hio.sm.1 hio.sm.2) (by rintro u D1 M1 ⟨rfl, rfl, rfl⟩; exact ⟨rfl, _, qA, qF⟩) ?_
        refine L.assign rfl rfl ?_
        refine L.nil ?_
        refine T.thenN ?_
        refine T.seq ?_
        refine T.region ?_
        refine L.move rfl rfl ?_
        refine L.neI rfl rfl rfl ?_
        refine L.nil ?_
        refine T.thenN ?_
        refine T.cond rfl (fun h40 => ?_) (fun h40 => ?_)
        · try simp only [decide_eq_true_eq, decide_eq_false_iff_not, Bool.not_eq_true', Bool.not_eq_false', Bool.and_eq_true, Bool.or_eq_true] at h40
          refine T.seq ?_
          refine T.region ?_
          refine L.build rfl bu24 (BP.doneE (out := [Value.int .i64 0, S [], Value.slice none 0 0]) rfl) ?_
          refine L.move rfl rfl ?_
          refine L.storeA ag24 rfl rfl qL qO qU qW ?_
          refine L.assign rfl rfl ?_
          refine L.nil ?_
          refine T.thenN ?_
          refine T.ret ?_
          refine T.thenR ?_
          have e0 : parF s = (.mk [] 0 [] [], chkE (itemF 9 1 64 ⟨s.drop 4, 0⟩).1) := by unfold parF; rw [if_neg (by omega), if_neg (fun e => e hpr), if_neg h34, if_pos h40]
          rw [e0]
          refine T.fact0 (φ := rtr (.mk [] 0 [] []) (eRow (.mk [] 0 [] []) none 0 0)) (fun z => rt_leaf) ?_
          exact T.retAT rfl ag24 rfl qN rfl ⟨none, 0, 0, rfl, rfl, rfl⟩ qD qF
        · try simp only [decide_eq_true_eq, decide_eq_false_iff_not, Bool.not_eq_true', Bool.not_eq_false', Bool.and_eq_true, Bool.or_eq_true] at h40
          refine T.skip ?_
          refine T.thenN ?_
          refine T.seq ?_
          refine T.region ?_
          refine L.loadA rfl ag24 rfl qN ?_
          refine L.storeA ag24 rfl rfl qL qO qU qW ?_
          refine L.assign rfl rfl ?_
          refine L.nil ?_
          refine T.thenN ?_
          refine T.ret ?_
          have e0 : parF s = ((itemF 9 1 64 ⟨s.drop 4, 0⟩).1, 0) := by unfold parF; rw [if_neg (by omega), if_neg (fun e => e hpr), if_neg h34, if_neg h40]
          rw [e0]
          exact T.retAT rfl ag24 rfl qN rfl ⟨_, _, _, rfl, rfl, rfl⟩ qD qF
set_option maxHeartbeats 400000 in
theorem awake6_spec   : Spec Try.prog 32 [] [] [] (fun v D' M' => v = .bool true ∧ D' = [] ∧ M' = []) := by
  refine Spec.intro (n := 47) Try.func32 rfl rfl (by decide) (Nat.le_of_ble_eq_true rfl) rfl (fun _ => qA) (fun _ => qA) ?_
  intro σ D M
  refine T.seq ?_
  refine T.region ?_
  refine L.assign rfl rfl ?_
  refine L.nil ?_
  refine T.thenN ?_
  refine T.seq ?_
  refine T.region ?_
  refine L.build rfl bu24 (BP.one rfl rfl rfl <| BP.one rfl rfl rfl <| BP.doneE (out := [Value.slice none 0 0]) rfl) ?_
  refine L.alloc rfl ze24 (fun b1 => ?_)
  refine L.storeA ag24 rfl rfl qL qO qU qW ?_
  refine L.nil ?_
  refine T.clEq b1 (iRow xab none 0 0) qP (by rfl) ?_
  refine T.freeze (A := cl b1 24 (iRow xab none 0 0)) qP ?_
  refine T.fact0 (φ := rtr xab (eRow xab none 0 0)) (fun z => rt_leaf) ?_
  refine T.thenN ?_
  refine T.seq ?_
  refine T.region ?_
  refine L.loadA rfl ag24 rfl qN ?_
  refine L.callF rfl (evs.cons rfl <| evs.nil) qD qS (write_spec (x := xab) none 0 0 (by show (Tr.mk [] 1 [97, 98] []).count ≤ _; rw [Tr.count_eq]; decide) tall_leaf (by decide)) (by rintro u D1 M1 ⟨rfl, rfl, rfl⟩; exact ⟨rfl, _, qA, qF⟩) ?_
  rw [wr_ab.1, wr_ab.2]
  refine L.move rfl rfl ?_
  refine L.extract rfl rfl rfl ?_
  refine L.extract rfl rfl rfl ?_
  refine L.assign rfl rfl ?_
  refine L.assign rfl rfl ?_
  refine L.nil ?_
  refine T.thenN ?_
  refine T.seq ?_
  refine T.region ?_
  refine L.move rfl rfl ?_
  refine L.call rfl (evs.cons rfl <| evs.nil) qD qS (parse_spec (s := [99, 114, 118, 1, 1, 1, 1, 2, 97, 98]) (by decide)) ?_
  rintro _ _ _ ⟨pa, pl, pc, rfl, rfl, rfl⟩
  refine L.norm qA qA ?_
  rw [par_ab]
  refine L.move rfl rfl ?_
  refine L.extract rfl rfl rfl ?_
  refine L.extract rfl rfl rfl ?_
  refine L.alloc rfl ze24 (fun b4 => ?_)
  refine L.storeA ag24 rfl rfl qL qO qU qW ?_
  refine L.assign rfl rfl ?_
  refine L.nil ?_
  refine T.thenN ?_
  refine T.seq ?_
  refine T.region ?_
  refine L.call rfl (evs.cons rfl <| evs.nil) qD qS (parse_spec (s := [99, 114, 118, 1, 0]) (by decide)) ?_
  rintro _ _ _ ⟨pa2, pl2, pc2, rfl, rfl, rfl⟩
  refine L.norm qA qA ?_
  rw [par_0]
  refine L.move rfl rfl ?_
  refine L.extract rfl rfl rfl ?_
  refine L.extract rfl rfl rfl ?_
  refine L.alloc rfl ze24 (fun b6 => ?_)
  refine L.storeA ag24 rfl rfl qL qO qU qW ?_
  refine L.assign rfl rfl ?_
  refine L.nil ?_
  refine T.thenN ?_
  refine T.seq ?_
  refine T.region ?_
  refine L.move rfl rfl ?_
  refine L.eqS rfl rfl rfl ?_
  refine L.move rfl rfl ?_
  refine L.known (t := 25) rfl (show _ = Value.bool true from congrArg Value.bool (by decide)) ?_
  refine L.guardT (dj := 25) rfl rfl rfl ?_
  refine L.move rfl rfl ?_
  refine L.guardT (dj := 25) rfl rfl rfl ?_
  refine L.eqI rfl rfl rfl ?_
  refine L.pickT rfl rfl rfl ?_
  refine L.move rfl rfl ?_
  refine L.known (t := 29) rfl (show _ = Value.bool true from congrArg Value.bool (by decide)) ?_
  refine L.guardT (dj := 29) rfl rfl rfl ?_
  refine L.move rfl rfl ?_
  refine L.guardT (dj := 29) rfl rfl rfl ?_
  refine L.eqI rfl rfl rfl ?_
  refine L.pickT rfl rfl rfl ?_
  refine L.move rfl rfl ?_
  refine L.known (t := 33) rfl (show _ = Value.bool true from congrArg Value.bool (by decide)) ?_
  refine L.guardT (dj := 33) rfl rfl rfl ?_
  refine L.loadA rfl ag24 rfl qN ?_
  refine L.guardT (dj := 33) rfl rfl rfl ?_
  refine L.loadA rfl ag24 rfl qN ?_
  refine L.guardT (dj := 33) rfl rfl rfl ?_
  refine L.callF rfl (evs.cons rfl <| evs.cons rfl <| evs.nil) qD qS (same_spec (x := xab) (z := xab) (by show (Tr.mk [] 1 [97, 98] []).count ≤ _; rw [Tr.count_eq]; decide)) (by rintro u D1 M1 ⟨rfl, rfl, rfl⟩; exact ⟨rfl, _, qA, qF⟩) ?_
  refine L.pickT rfl rfl rfl ?_
  refine L.move rfl rfl ?_
  refine L.known (t := 38) rfl (show _ = Value.bool true from congrArg Value.bool (by simp [compT_self])) ?_
  refine L.guardT (dj := 38) rfl rfl rfl ?_
  refine L.move rfl rfl ?_
  refine L.guardT (dj := 38) rfl rfl rfl ?_
  refine L.eqI rfl rfl rfl ?_
  refine L.pickT rfl rfl rfl ?_
  refine L.move rfl rfl ?_
  refine L.known (t := 42) rfl (show _ = Value.bool true from congrArg Value.bool (by decide)) ?_
  refine L.guardT (dj := 42) rfl rfl rfl ?_
  refine L.loadA rfl ag24 rfl qN ?_
  refine L.guardT (dj := 42) rfl rfl rfl ?_
  refine L.callF rfl (evs.cons rfl <| evs.nil) qD qS (size_spec (x := xab) none 0 0 (by show (Tr.mk [] 1 [97, 98] []).count ≤ _; rw [Tr.count_eq]; decide) chk_ab) (by rintro u D1 M1 ⟨rfl, rfl, rfl⟩; exact ⟨rfl, _, qA, qF⟩) ?_
  rw [put_ab]
  refine L.guardT (dj := 42) rfl rfl rfl ?_
  refine L.eqI rfl rfl rfl ?_
  refine L.pickT rfl rfl rfl ?_
  refine L.assign rfl rfl ?_
  refine L.nil ?_
  refine T.thenN ?_
  refine T.ret ?_
  exact T.ret1 rfl rfl ⟨congrArg Value.bool (by decide), rfl, rfl⟩ qD qF
end Cv
