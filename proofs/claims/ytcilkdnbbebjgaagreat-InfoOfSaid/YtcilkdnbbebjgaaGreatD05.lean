/-
  The walks: Cut, Name.
-/
import Derived.Test.YtcilkdnbbebjgaaGreatM05
import Derived.Test.YtcilkdnbbebjgaaGreatProg
import Derived.KernelRfl
set_option linter.unusedVariables false
set_option linter.unusedSimpArgs false
set_option linter.unusedSectionVars false
set_option maxRecDepth 10000
namespace Cv
open Go Go.Proofs

set_option maxHeartbeats 400000 in
theorem cut_spec {l : List UInt8} {n : Nat}  : Spec Tryz.prog 19 [S l, .int .i64 (n : Int)] [] [] (fun v D' M' => v = S (l.take n) ∧ D' = [] ∧ M' = []) := by
 refine Spec.intro (n := 13) Tryz.func19 rfl rfl (by decide) (Nat.le_of_ble_eq_true rfl) rfl (fun _ => qA) (fun _ => qA) ?_
 intro σ D M
 refine T.seq (T.region ?_)
 refine L.assign rfl rfl ?_
 refine L.nil ?_
 refine T.thenN (T.seq (T.seq (T.region ?_)))
 refine L.move rfl rfl ?_
 refine L.lenStr rfl Tryz.underlying9 rfl ?_
 refine L.move rfl rfl ?_
 refine L.gtI rfl rfl rfl ?_
 refine L.nil ?_
 refine T.thenN ?_
 refine T.cond rfl (fun h8 => ?_) (fun h8 => ?_)
 ·try simp only [dq] at h8
  refine T.seq (T.region ?_)
  refine L.move rfl rfl ?_
  refine L.move rfl rfl ?_
  refine L.sliceS (a := 0) (b := n) rfl Tryz.underlying9 rfl rfl ⟨_, (by first | rfl | (congr 2; omega))⟩ qI qI ?_
  refine L.assign rfl rfl ?_
  refine L.nil ?_
  refine T.thenN (T.ret ?_)
  refine T.thenR ?_
  exact T.ret1 rfl rfl ⟨congrArg S (by simp), rfl, rfl⟩ qD qF
 ·try simp only [dq] at h8
  refine T.skip (T.thenN (T.seq (T.region ?_)))
  refine L.move rfl rfl ?_
  refine L.assign rfl rfl ?_
  refine L.nil ?_
  refine T.thenN (T.ret ?_)
  exact T.ret1 rfl rfl ⟨congrArg S (by rw [List.take_of_length_le (by omega)]), rfl, rfl⟩ qD qF
set_option maxHeartbeats 400000 in
theorem bad_spec {l : List UInt8} {c : UInt8} (hl : l.length ≤ 1000000) : Spec Tryz.prog 81 [S l, Y c] [] [] (fun v D' M' => v = .bool (decide (c ∈ l)) ∧ D' = [] ∧ M' = []) := by
 refine Spec.intro (n := 17) Tryz.func81 rfl rfl (by decide) (Nat.le_of_ble_eq_true rfl) rfl (fun _ => qA) (fun _ => qA) ?_
 intro σ D M
 refine T.seq (T.region ?_)
 refine L.assign rfl rfl ?_
 refine L.nil ?_
 refine T.thenN (T.seq (T.seq (T.region ?_)))
 refine L.assign rfl rfl ?_
 refine L.nil ?_
 refine T.thenN (T.block ?_)
 refine T.loop (fun K' D' M' μ => ∃ (i : Nat), (i ≤ l.length ∧ c ∉ l.take i) ∧ K' = [(5, .int .i64 i)] ∧ D' = [] ∧ M' = [] ∧ μ = l.length - i) (.cons (t := 0) rfl <| .cons (t := 1) rfl <| SubK.nil _) (⟨0, ⟨by omega, by simp⟩, rfl, rfl, rfl, rfl⟩) (.cons (t := 5) rfl <| SubK.nil _) qD qS ?_
 rintro K1 D1 M1 m1 ⟨i, ⟨hi, hc⟩, rfl, rfl, rfl, rfl⟩
 refine T.norm3 qA qA qA ?_
 refine T.seq (T.seq (T.region ?_))
 refine L.move rfl rfl ?_
 refine L.move rfl rfl ?_
 refine L.lenStr rfl Tryz.underlying9 rfl ?_
 refine L.ltI rfl rfl rfl ?_
 refine L.nil ?_
 refine T.thenN ?_
 refine T.cond rfl (fun h9 => ?_) (fun h9 => ?_)
 ·try simp only [dq] at h9
  refine T.skip (T.thenN (T.seq (T.block (T.seq (T.region ?_)))))
  refine L.move rfl rfl ?_
  refine L.move rfl rfl ?_
  have hx : l[i]? = some (gd l i) := gd_get (by omega)
  refine L.indexS (i := i) rfl Tryz.underlying9 rfl rfl (by first | rfl | omega | (simp; done)) hx ?_
  refine L.move rfl rfl ?_
  refine L.eqI rfl rfl rfl ?_
  refine L.nil ?_
  refine T.thenN ?_
  refine T.cond rfl (fun h16 => ?_) (fun h16 => ?_)
  ·try simp only [dq] at h16
   refine T.seq (T.region ?_)
   refine L.assign rfl rfl ?_
   refine L.nil ?_
   refine T.thenN (T.ret (T.blkR ?_))
   refine T.thenR ?_
   refine T.thenR ?_
   refine T.blkR ?_
   refine T.thenR ?_
   exact T.ret1 rfl rfl ⟨congrArg Value.bool (decide_eq_true (by rw [← show gd l i = c from Y_inj h16]; exact List.mem_of_getElem? hx)).symm, rfl, rfl⟩ qD qF
  ·try simp only [dq] at h16
   refine T.skip (T.blkN (T.thenN (T.region ?_)))
   refine L.move rfl rfl ?_
   refine L.addN rfl rfl rfl (by omega) ?_
   refine L.assign rfl rfl ?_
   refine L.nil ?_
   refine T.thenN ?_
   exact T.back ⟨i + 1, ⟨by omega, not_next hc hx (fun e => h16 (by rw [e]))⟩, rfl, rfl, rfl, rfl⟩ qI (.cons (t := 5) rfl <| SubK.nil _) (.cons (t := 0) rfl <| .cons (t := 1) rfl <| SubK.nil _) qD qD qF
 ·try simp only [dq] at h9
  refine T.exit (T.thenX (T.thenX (T.blkX (T.thenN (T.seq (T.region ?_))))))
  refine L.assign rfl rfl ?_
  refine L.nil ?_
  refine T.thenN (T.ret ?_)
  exact T.ret1 rfl rfl ⟨congrArg Value.bool (decide_eq_false (by rw [List.take_of_length_le (by omega)] at hc; exact hc)).symm, rfl, rfl⟩ qD qF
set_option maxHeartbeats 400000 in
theorem rname_spec {s : List UInt8} (hs : s.length ≤ 1000000) : Spec Tryz.prog 80 [S s] [] [] (fun v D' M' => v = .bool (nameB s) ∧ D' = [] ∧ M' = []) := by
 refine Spec.intro (n := 29) Tryz.func80 rfl rfl (by decide) (Nat.le_of_ble_eq_true rfl) rfl (fun _ => qA) (fun _ => qA) ?_
 intro σ D M
 refine T.seq (T.region ?_)
 refine L.assign rfl rfl ?_
 refine L.nil ?_
 refine T.thenN (T.seq (T.region ?_))
 refine L.move rfl rfl ?_
 refine L.lenStr rfl Tryz.underlying9 rfl ?_
 refine L.gtI rfl rfl rfl ?_
 refine L.move rfl rfl ?_
 refine L.part (t := 6) rfl (fun h1 => ?_) (fun h1 => ?_)
 ·try simp only [dq] at h1
  refine L.guardT (dj := 6) rfl rfl rfl ?_
  refine L.move rfl rfl ?_
  refine L.guardT (dj := 6) rfl rfl rfl ?_
  refine L.lenStr rfl Tryz.underlying9 rfl ?_
  refine L.guardT (dj := 6) rfl rfl rfl ?_
  refine L.leI rfl rfl rfl ?_
  refine L.pickT rfl rfl rfl ?_
  refine L.move rfl rfl ?_
  refine L.part (t := 11) rfl (fun h2 => ?_) (fun h2 => ?_)
  ·try simp only [dq] at h2
   refine L.guardT (dj := 11) rfl rfl rfl ?_
   refine L.move rfl rfl ?_
   refine L.guardT (dj := 11) rfl rfl rfl ?_
   refine L.neS rfl rfl rfl ?_
   refine L.pickT rfl rfl rfl ?_
   refine L.move rfl rfl ?_
   refine L.part (t := 15) rfl (fun h3 => ?_) (fun h3 => ?_)
   ·try simp only [dq] at h3
    refine L.guardT (dj := 15) rfl rfl rfl ?_
    refine L.move rfl rfl ?_
    refine L.guardT (dj := 15) rfl rfl rfl ?_
    refine L.neS rfl rfl rfl ?_
    refine L.pickT rfl rfl rfl ?_
    refine L.move rfl rfl ?_
    refine L.part (t := 19) rfl (fun h4 => ?_) (fun h4 => ?_)
    ·try simp only [dq] at h4
     refine L.guardT (dj := 19) rfl rfl rfl ?_
     refine L.move rfl rfl ?_
     refine L.guardT (dj := 19) rfl rfl rfl ?_
     refine L.callF rfl (evs.cons rfl <| evs.cons rfl <| evs.nil) qD qS (bad_spec (c := 47) hs) (by rintro u D1 M1 ⟨rfl, rfl, rfl⟩; exact ⟨rfl, _, qA, qF⟩) ?_
     refine L.guardT (dj := 19) rfl rfl rfl ?_
     refine L.notB rfl rfl ?_
     refine L.pickT rfl rfl rfl ?_
     refine L.move rfl rfl ?_
     refine L.part (t := 24) rfl (fun h5 => ?_) (fun h5 => ?_)
     ·try simp only [dq] at h5
      refine L.guardT (dj := 24) rfl rfl rfl ?_
      refine L.move rfl rfl ?_
      refine L.guardT (dj := 24) rfl rfl rfl ?_
      refine L.callF rfl (evs.cons rfl <| evs.cons rfl <| evs.nil) qD qS (bad_spec (c := 0) hs) (by rintro u D1 M1 ⟨rfl, rfl, rfl⟩; exact ⟨rfl, _, qA, qF⟩) ?_
      refine L.guardT (dj := 24) rfl rfl rfl ?_
      refine L.notB rfl rfl ?_
      refine L.pickT rfl rfl rfl ?_
      refine L.assign rfl rfl ?_
      refine L.nil ?_
      refine T.thenN (T.ret ?_)
      exact T.ret1 rfl rfl ⟨congrArg Value.bool (by rw [nameB_eq]; simp_all <;> omega), rfl, rfl⟩ qD qF
     ·try simp only [dq] at h5
      refine L.guardF (dj := 24) (c := false) rfl rfl rfl rfl rfl (by decide) ?_
      refine L.guardF (dj := 24) (c := false) rfl rfl rfl rfl rfl (by decide) ?_
      refine L.guardF (dj := 24) (c := false) rfl rfl rfl rfl rfl (by decide) ?_
      refine L.pickF rfl rfl rfl ?_
      refine L.assign rfl rfl ?_
      refine L.nil ?_
      refine T.thenN (T.ret ?_)
      exact T.ret1 rfl rfl ⟨congrArg Value.bool (by rw [nameB_eq]; simp_all <;> omega), rfl, rfl⟩ qD qF
    ·try simp only [dq] at h4
     refine L.guardF (dj := 19) (c := false) rfl rfl rfl rfl rfl (by decide) ?_
     refine L.guardF (dj := 19) (c := false) rfl rfl rfl rfl rfl (by decide) ?_
     refine L.guardF (dj := 19) (c := false) rfl rfl rfl rfl rfl (by decide) ?_
     refine L.pickF rfl rfl rfl ?_
     refine L.move rfl rfl ?_
     refine L.guardF (dj := 24) (c := false) rfl rfl rfl rfl rfl (by decide) ?_
     refine L.guardF (dj := 24) (c := false) rfl rfl rfl rfl rfl (by decide) ?_
     refine L.guardF (dj := 24) (c := false) rfl rfl rfl rfl rfl (by decide) ?_
     refine L.pickF rfl rfl rfl ?_
     refine L.assign rfl rfl ?_
     refine L.nil ?_
     refine T.thenN (T.ret ?_)
     exact T.ret1 rfl rfl ⟨congrArg Value.bool (by rw [nameB_eq]; simp_all <;> omega), rfl, rfl⟩ qD qF
   ·try simp only [dq] at h3
    refine L.guardF (dj := 15) (c := false) rfl rfl rfl rfl rfl (by decide) ?_
    refine L.guardF (dj := 15) (c := false) rfl rfl rfl rfl rfl (by decide) ?_
    refine L.pickF rfl rfl rfl ?_
    refine L.move rfl rfl ?_
    refine L.guardF (dj := 19) (c := false) rfl rfl rfl rfl rfl (by decide) ?_
    refine L.guardF (dj := 19) (c := false) rfl rfl rfl rfl rfl (by decide) ?_
    refine L.guardF (dj := 19) (c := false) rfl rfl rfl rfl rfl (by decide) ?_
    refine L.pickF rfl rfl rfl ?_
    refine L.move rfl rfl ?_
    refine L.guardF (dj := 24) (c := false) rfl rfl rfl rfl rfl (by decide) ?_
    refine L.guardF (dj := 24) (c := false) rfl rfl rfl rfl rfl (by decide) ?_
    refine L.guardF (dj := 24) (c := false) rfl rfl rfl rfl rfl (by decide) ?_
    refine L.pickF rfl rfl rfl ?_
    refine L.assign rfl rfl ?_
    refine L.nil ?_
    refine T.thenN (T.ret ?_)
    exact T.ret1 rfl rfl ⟨congrArg Value.bool (by rw [nameB_eq]; simp_all <;> omega), rfl, rfl⟩ qD qF
  ·try simp only [dq] at h2
   refine L.guardF (dj := 11) (c := false) rfl rfl rfl rfl rfl (by decide) ?_
   refine L.guardF (dj := 11) (c := false) rfl rfl rfl rfl rfl (by decide) ?_
   refine L.pickF rfl rfl rfl ?_
   refine L.move rfl rfl ?_
   refine L.guardF (dj := 15) (c := false) rfl rfl rfl rfl rfl (by decide) ?_
   refine L.guardF (dj := 15) (c := false) rfl rfl rfl rfl rfl (by decide) ?_
   refine L.pickF rfl rfl rfl ?_
   refine L.move rfl rfl ?_
   refine L.guardF (dj := 19) (c := false) rfl rfl rfl rfl rfl (by decide) ?_
   refine L.guardF (dj := 19) (c := false) rfl rfl rfl rfl rfl (by decide) ?_
   refine L.guardF (dj := 19) (c := false) rfl rfl rfl rfl rfl (by decide) ?_
   refine L.pickF rfl rfl rfl ?_
   refine L.move rfl rfl ?_
   refine L.guardF (dj := 24) (c := false) rfl rfl rfl rfl rfl (by decide) ?_
   refine L.guardF (dj := 24) (c := false) rfl rfl rfl rfl rfl (by decide) ?_
   refine L.guardF (dj := 24) (c := false) rfl rfl rfl rfl rfl (by decide) ?_
   refine L.pickF rfl rfl rfl ?_
   refine L.assign rfl rfl ?_
   refine L.nil ?_
   refine T.thenN (T.ret ?_)
   exact T.ret1 rfl rfl ⟨congrArg Value.bool (by rw [nameB_eq]; simp_all <;> omega), rfl, rfl⟩ qD qF
 ·try simp only [dq] at h1
  refine L.guardF (dj := 6) (c := false) rfl rfl rfl rfl rfl (by decide) ?_
  refine L.guardF (dj := 6) (c := false) rfl rfl rfl rfl rfl (by decide) ?_
  refine L.guardF (dj := 6) (c := false) rfl rfl rfl rfl rfl (by decide) ?_
  refine L.pickF rfl rfl rfl ?_
  refine L.move rfl rfl ?_
  refine L.guardF (dj := 11) (c := false) rfl rfl rfl rfl rfl (by decide) ?_
  refine L.guardF (dj := 11) (c := false) rfl rfl rfl rfl rfl (by decide) ?_
  refine L.pickF rfl rfl rfl ?_
  refine L.move rfl rfl ?_
  refine L.guardF (dj := 15) (c := false) rfl rfl rfl rfl rfl (by decide) ?_
  refine L.guardF (dj := 15) (c := false) rfl rfl rfl rfl rfl (by decide) ?_
  refine L.pickF rfl rfl rfl ?_
  refine L.move rfl rfl ?_
  refine L.guardF (dj := 19) (c := false) rfl rfl rfl rfl rfl (by decide) ?_
  refine L.guardF (dj := 19) (c := false) rfl rfl rfl rfl rfl (by decide) ?_
  refine L.guardF (dj := 19) (c := false) rfl rfl rfl rfl rfl (by decide) ?_
  refine L.pickF rfl rfl rfl ?_
  refine L.move rfl rfl ?_
  refine L.guardF (dj := 24) (c := false) rfl rfl rfl rfl rfl (by decide) ?_
  refine L.guardF (dj := 24) (c := false) rfl rfl rfl rfl rfl (by decide) ?_
  refine L.guardF (dj := 24) (c := false) rfl rfl rfl rfl rfl (by decide) ?_
  refine L.pickF rfl rfl rfl ?_
  refine L.assign rfl rfl ?_
  refine L.nil ?_
  refine T.thenN (T.ret ?_)
  exact T.ret1 rfl rfl ⟨congrArg Value.bool (by rw [nameB_eq]; simp_all <;> omega), rfl, rfl⟩ qD qF
end Cv
