/-
  The walks: bytes read, as the document tells it.
-/
import Derived.Test.YtcilkdnbbebjgaaGreatF06
import Derived.Test.YtcilkdnbbebjgaaGreatProg
import Derived.KernelRfl
set_option linter.unusedVariables false
set_option linter.unusedSimpArgs false
set_option linter.unusedSectionVars false
set_option maxRecDepth 10000
namespace Cv
open Go Go.Proofs

set_option maxHeartbeats 400000 in
theorem hasp_spec {s m : List UInt8}  : Spec Tryz.prog 164 [S s, S m] [] [] (fun v D' M' => v = .bool (decide (s.take m.length = m)) ∧ D' = [] ∧ M' = []) := by
 refine Spec.intro (n := 18) Tryz.func164 rfl rfl (by decide) (Nat.le_of_ble_eq_true rfl) rfl (fun _ => qA) (fun _ => qA) ?_
 intro σ D M
 refine T.seq (T.region ?_)
 refine L.assign rfl rfl ?_
 refine L.nil ?_
 refine T.thenN (T.seq ?_)
 rcases Nat.lt_or_ge s.length m.length with hlt | hge
 ·skip
  refine T.region ?_
  refine L.move rfl rfl ?_
  refine L.lenStr rfl Tryz.underlying9 rfl ?_
  refine L.move rfl rfl ?_
  refine L.lenStr rfl Tryz.underlying9 rfl ?_
  refine L.geI rfl rfl rfl ?_
  refine L.move rfl rfl ?_
  refine L.known (t := 10) rfl (show _ = Value.bool false from congrArg Value.bool (decide_eq_false (by omega))) ?_
  refine L.guardF (dj := 10) (c := false) rfl rfl rfl rfl rfl (by decide) ?_
  refine L.guardF (dj := 10) (c := false) rfl rfl rfl rfl rfl (by decide) ?_
  refine L.guardF (dj := 10) (c := false) rfl rfl rfl rfl rfl (by decide) ?_
  refine L.guardF (dj := 10) (c := false) rfl rfl rfl rfl rfl (by decide) ?_
  refine L.guardF (dj := 10) (c := false) rfl rfl rfl rfl rfl (by decide) ?_
  refine L.guardF (dj := 10) (c := false) rfl rfl rfl rfl rfl (by decide) ?_
  refine L.pickF rfl rfl rfl ?_
  refine L.assign rfl rfl ?_
  refine L.nil ?_
  refine T.thenN (T.ret ?_)
  exact T.ret1 rfl rfl ⟨congrArg Value.bool (decide_eq_false (fun e => by have := congrArg List.length e; rw [List.length_take] at this; omega)).symm, rfl, rfl⟩ qD qF
 ·skip
  refine T.region ?_
  refine L.move rfl rfl ?_
  refine L.lenStr rfl Tryz.underlying9 rfl ?_
  refine L.move rfl rfl ?_
  refine L.lenStr rfl Tryz.underlying9 rfl ?_
  refine L.geI rfl rfl rfl ?_
  refine L.move rfl rfl ?_
  refine L.known (t := 10) rfl (show _ = Value.bool true from congrArg Value.bool (decide_eq_true (by omega))) ?_
  refine L.guardT (dj := 10) rfl rfl rfl ?_
  refine L.move rfl rfl ?_
  refine L.guardT (dj := 10) rfl rfl rfl ?_
  refine L.move rfl rfl ?_
  refine L.guardT (dj := 10) rfl rfl rfl ?_
  refine L.lenStr rfl Tryz.underlying9 rfl ?_
  refine L.guardT (dj := 10) rfl rfl rfl ?_
  refine L.sliceS (a := 0) (b := m.length) rfl Tryz.underlying9 rfl rfl ⟨_, (by first | rfl | (congr 2; omega))⟩ qI qI ?_
  refine L.guardT (dj := 10) rfl rfl rfl ?_
  refine L.move rfl rfl ?_
  refine L.guardT (dj := 10) rfl rfl rfl ?_
  refine L.eqS rfl rfl rfl ?_
  refine L.pickT rfl rfl rfl ?_
  refine L.assign rfl rfl ?_
  refine L.nil ?_
  refine T.thenN (T.ret ?_)
  exact T.ret1 rfl rfl ⟨congrArg Value.bool (by simp), rfl, rfl⟩ qD qF
set_option maxHeartbeats 400000 in
theorem scut_spec {s m : List UInt8}  : Spec Tryz.prog 133 [S s, S m] [] [] (fun v D' M' => v = .tuple #[S (if s.take m.length = m then s.drop m.length else s), .bool (decide (s.take m.length = m))] ∧ D' = [] ∧ M' = []) := by
 refine Spec.intro (n := 15) Tryz.func133 rfl rfl (by decide) (Nat.le_of_ble_eq_true rfl) rfl (fun _ => qA) (fun _ => qA) ?_
 intro σ D M
 refine T.seq (T.region ?_)
 refine L.assign rfl rfl ?_
 refine L.assign rfl rfl ?_
 refine L.nil ?_
 refine T.thenN (T.seq (T.seq (T.region ?_)))
 refine L.move rfl rfl ?_
 refine L.move rfl rfl ?_
 refine L.callF rfl (evs.cons rfl <| evs.cons rfl <| evs.nil) qD qS (hasp_spec (s := s) (m := m)) (by rintro u D1 M1 ⟨rfl, rfl, rfl⟩; exact ⟨rfl, _, qA, qF⟩) ?_
 refine L.notB rfl rfl ?_
 refine L.nil ?_
 refine T.thenN ?_
 refine T.cond rfl (fun h9 => ?_) (fun h9 => ?_)
 ·try simp only [dq] at h9
  refine T.seq (T.region ?_)
  refine L.move rfl rfl ?_
  refine L.assign rfl rfl ?_
  refine L.assign rfl rfl ?_
  refine L.nil ?_
  refine T.thenN (T.ret ?_)
  refine T.thenR ?_
  have hpr : ¬ s.take m.length = m := by simpa using h9
  exact T.ret2 rfl rfl rfl ⟨by rw [if_neg hpr, decide_eq_false hpr], rfl, rfl⟩ qD qF
 ·try simp only [dq] at h9
  have hpr : s.take m.length = m := by simpa using h9
  have hml : m.length ≤ s.length := by have := congrArg List.length hpr; rw [List.length_take] at this; omega
  refine T.skip (T.thenN (T.seq (T.region ?_)))
  refine L.move rfl rfl ?_
  refine L.move rfl rfl ?_
  refine L.lenStr rfl Tryz.underlying9 rfl ?_
  refine L.sliceS (a := m.length) (b := _) rfl Tryz.underlying9 rfl ⟨_, (by first | rfl | (congr 2; omega))⟩ rfl qI qI ?_
  refine L.assign rfl rfl ?_
  refine L.assign rfl rfl ?_
  refine L.nil ?_
  refine T.thenN (T.ret ?_)
  exact T.ret2 rfl rfl rfl ⟨by rw [if_pos hpr, decide_eq_true hpr]; simp, rfl, rfl⟩ qD qF
set_option maxHeartbeats 400000 in
theorem cutp_spec {s m : List UInt8}  : Spec Tryz.prog 102 [S s, S m] [] [] (fun v D' M' => v = .tuple #[S (if s.take m.length = m then s.drop m.length else s), .bool (decide (s.take m.length = m))] ∧ D' = [] ∧ M' = []) := by
 refine Spec.intro (n := 11) Tryz.func102 rfl rfl (by decide) (Nat.le_of_ble_eq_true rfl) rfl (fun _ => qA) (fun _ => qA) ?_
 intro σ D M
 refine T.seq (T.region ?_)
 refine L.assign rfl rfl ?_
 refine L.assign rfl rfl ?_
 refine L.nil ?_
 refine T.thenN (T.seq (T.region ?_))
 refine L.move rfl rfl ?_
 refine L.move rfl rfl ?_
 refine L.callF rfl (evs.cons rfl <| evs.cons rfl <| evs.nil) qD qS (scut_spec (s := s) (m := m)) (by rintro u D1 M1 ⟨rfl, rfl, rfl⟩; exact ⟨rfl, _, qA, qF⟩) ?_
 refine L.extract rfl rfl rfl ?_
 refine L.extract rfl rfl rfl ?_
 refine L.assign rfl rfl ?_
 refine L.assign rfl rfl ?_
 refine L.nil ?_
 refine T.thenN (T.ret ?_)
 exact T.ret2 rfl rfl rfl ⟨rfl, rfl, rfl⟩ qD qF
end Cv
