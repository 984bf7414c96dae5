/-
  The walks: the reference of trees.
-/
import Derived.Test.YtcilkdnbbebjgaaGreatD05
import Derived.Test.YtcilkdnbbebjgaaGreatProg
import Derived.KernelRfl
set_option linter.unusedVariables false
set_option linter.unusedSimpArgs false
set_option linter.unusedSectionVars false
set_option maxRecDepth 10000
namespace Cv
open Go Go.Proofs

set_option maxHeartbeats 400000 in
theorem rchk_spec {a : Option Addr} {len cap : Nat} {l : List Nd} (hlen : len ≤ 1000000) (hsm : ∀ z ∈ l, NdSm z) : Spec Tryz.prog 39 [.slice a len cap] [rsl 7 a len cap (l.map nrow)] [] (fun v D' M' => v = .int .i64 (refChk l) ∧ D' = [] ∧ M' = []) := by
 refine Spec.intro (n := 94) Tryz.func39 rfl rfl (by decide) (Nat.le_of_ble_eq_true rfl) rfl (fun _ => qA) (fun _ => qA) ?_
 intro σ D M
 refine T.rslLen2 qM (fun hl hcc => ?_)
 rw [List.length_map] at hl
 refine T.seq (T.region ?_)
 refine L.assign rfl rfl ?_
 refine L.nil ?_
 refine T.thenN (T.seq (T.seq (T.region ?_)))
 refine L.move rfl rfl ?_
 refine L.lenSl rfl Tryz.underlying47 rfl ?_
 refine L.move rfl rfl ?_
 refine L.nil ?_
 refine T.thenN (T.block ?_)
 refine T.loop (fun K' D' M' μ => ∃ (i : Nat), (i ≤ len ∧ errL l = errL (l.drop i)) ∧ K' = [(7, .int .i64 i)] ∧ D' = [] ∧ M' = [] ∧ μ = len - i) (.cons (t := 0) rfl <| .cons (t := 5) rfl <| .cons (t := 6) rfl <| SubK.nil _) (⟨0, ⟨by omega, by simp⟩, rfl, rfl, rfl, rfl⟩) (.cons (t := 7) rfl <| SubK.nil _) qD qS ?_
 rintro K1 D1 M1 m1 ⟨i, ⟨hi, hI⟩, rfl, rfl, rfl, rfl⟩
 refine T.norm3 qA qA qA ?_
 refine T.seq (T.region ?_)
 refine L.ltI rfl rfl rfl ?_
 refine L.nil ?_
 refine T.thenN (T.seq ?_)
 refine T.cond rfl (fun h8 => ?_) (fun h8 => ?_)
 ·try simp only [dq] at h8
  refine T.skip (T.thenN (T.seq (T.block (T.seq ?_))))
  have hz0 : l[i]? = some (gd l i) := gd_get (by omega)
  obtain ⟨z, hzz⟩ : ∃ z, z = gd l i := ⟨_, rfl⟩
  rw [← hzz] at hz0
  have hz := hz0
  have hzs := hsm z (List.mem_of_getElem? hz)
  refine T.region ?_
  refine L.idx (i := i) rfl Tryz.underlying47 sz149 rfl rfl qM (by first | rfl | omega | (simp; done)) qG (fun b9 o9 => ?_)
  refine L.loadA rfl ag149 rfl qN ?_
  refine L.alloc rfl ze149 (fun b4 => ?_)
  refine L.storeA ag149 rfl rfl qL qO qU qW ?_
  refine L.nil ?_
  refine T.freeze (A := cl b4 149 (nrow z)) qP ?_
  refine T.thenN (T.seq (T.seq ?_))
  refine T.cutC (fun K' D' M' => ∃ (b1 : Bool), (b1 = true ↔ (1 < z.dep ∧ (nameB z.n = false ∨ (z.first = false ∧ z.rise = false)))) ∧ K' = [(29, .bool b1)] ∧ D' = [] ∧ M' = []) (M0 := []) (.cons (t := 0) rfl <| .cons (t := 4) rfl <| .cons (t := 5) rfl <| .cons (t := 6) rfl <| .cons (t := 7) rfl <| SubK.nil _) qS ?_ ?_
  ·skip
   refine T.region ?_
   first | refine L.field0 rfl fo149_0 rfl ?_ | refine L.field rfl fo149_0 rfl ?_
   refine L.load rfl sc3 rfl qC ?_
   refine L.gtI rfl rfl rfl ?_
   refine L.move rfl rfl ?_
   refine L.part (t := 14) rfl (fun h1 => ?_) (fun h1 => ?_)
   ·try simp only [dq] at h1
    refine L.guardT (dj := 14) rfl rfl rfl ?_
    first | refine L.field0 rfl fo149_1 rfl ?_ | refine L.field rfl fo149_1 rfl ?_
    refine L.guardT (dj := 14) rfl rfl rfl ?_
    refine L.load rfl sc9 rfl qC ?_
    refine L.guardT (dj := 14) rfl rfl rfl ?_
    refine L.callF rfl (evs.cons rfl <| evs.nil) qD qS (rname_spec (s := z.n) (by have := hzs.1; omega)) (by rintro u D1 M1 ⟨rfl, rfl, rfl⟩; exact ⟨rfl, _, qA, qF⟩) ?_
    refine L.guardT (dj := 14) rfl rfl rfl ?_
    refine L.notB rfl rfl ?_
    refine L.guardT (dj := 14) rfl rfl rfl ?_
    refine L.move rfl rfl ?_
    refine L.part (t := 19) rfl (fun h2 => ?_) (fun h2 => ?_)
    ·try simp only [dq] at h2
     refine L.guardF (dj := 19) (c := true) rfl rfl rfl rfl rfl (by decide) ?_
     refine L.guardF (dj := 19) (c := true) rfl rfl rfl rfl rfl (by decide) ?_
     refine L.guardF (dj := 19) (c := true) rfl rfl rfl rfl rfl (by decide) ?_
     refine L.guardF (dj := 19) (c := true) rfl rfl rfl rfl rfl (by decide) ?_
     refine L.guardU (dj := 23) rfl rfl rfl rfl rfl ?_
     refine L.guardU (dj := 23) rfl rfl rfl rfl rfl ?_
     refine L.guardU (dj := 23) rfl rfl rfl rfl rfl ?_
     refine L.guardF (dj := 19) (c := true) rfl rfl rfl rfl rfl (by decide) ?_
     refine L.guardT (dj := 14) rfl rfl rfl ?_
     refine L.pickT rfl rfl rfl ?_
     refine L.pickT rfl rfl rfl ?_
     refine L.nil ?_
     refine T.thenN ?_
     exact T.toJoin ⟨_, (by simp_all <;> omega), rfl, rfl, rfl⟩ (.cons (t := 29) rfl <| SubK.nil _) (.cons (t := 0) rfl <| .cons (t := 4) rfl <| .cons (t := 5) rfl <| .cons (t := 6) rfl <| .cons (t := 7) rfl <| SubK.nil _) qD qD qF
    ·try simp only [dq] at h2
     refine L.guardT (dj := 19) rfl rfl rfl ?_
     first | refine L.field0 rfl fo149_5 rfl ?_ | refine L.field rfl fo149_5 rfl ?_
     refine L.guardT (dj := 19) rfl rfl rfl ?_
     refine L.load rfl sc4 rfl qC ?_
     refine L.guardT (dj := 19) rfl rfl rfl ?_
     refine L.notB rfl rfl ?_
     refine L.guardT (dj := 19) rfl rfl rfl ?_
     refine L.move rfl rfl ?_
     refine L.part (t := 23) rfl (fun h3 => ?_) (fun h3 => ?_)
     ·try simp only [dq] at h3
      refine L.guardT (dj := 23) rfl rfl rfl ?_
      first | refine L.field0 rfl fo149_6 rfl ?_ | refine L.field rfl fo149_6 rfl ?_
      refine L.guardT (dj := 23) rfl rfl rfl ?_
      refine L.load rfl sc4 rfl qC ?_
      refine L.guardT (dj := 23) rfl rfl rfl ?_
      refine L.notB rfl rfl ?_
      refine L.guardT (dj := 19) rfl rfl rfl ?_
      refine L.pickT rfl rfl rfl ?_
      refine L.guardT (dj := 14) rfl rfl rfl ?_
      refine L.pickF rfl rfl rfl ?_
      refine L.pickT rfl rfl rfl ?_
      refine L.nil ?_
      refine T.thenN ?_
      exact T.toJoin ⟨_, (by simp_all <;> omega), rfl, rfl, rfl⟩ (.cons (t := 29) rfl <| SubK.nil _) (.cons (t := 0) rfl <| .cons (t := 4) rfl <| .cons (t := 5) rfl <| .cons (t := 6) rfl <| .cons (t := 7) rfl <| SubK.nil _) qD qD qF
     ·try simp only [dq] at h3
      refine L.guardF (dj := 23) (c := false) rfl rfl rfl rfl rfl (by decide) ?_
      refine L.guardF (dj := 23) (c := false) rfl rfl rfl rfl rfl (by decide) ?_
      refine L.guardF (dj := 23) (c := false) rfl rfl rfl rfl rfl (by decide) ?_
      refine L.guardT (dj := 19) rfl rfl rfl ?_
      refine L.pickF rfl rfl rfl ?_
      refine L.guardT (dj := 14) rfl rfl rfl ?_
      refine L.pickF rfl rfl rfl ?_
      refine L.pickT rfl rfl rfl ?_
      refine L.nil ?_
      refine T.thenN ?_
      exact T.toJoin ⟨_, (by simp_all <;> omega), rfl, rfl, rfl⟩ (.cons (t := 29) rfl <| SubK.nil _) (.cons (t := 0) rfl <| .cons (t := 4) rfl <| .cons (t := 5) rfl <| .cons (t := 6) rfl <| .cons (t := 7) rfl <| SubK.nil _) qD qD qF
   ·try simp only [dq] at h1
    refine L.guardF (dj := 14) (c := false) rfl rfl rfl rfl rfl (by decide) ?_
    refine L.guardF (dj := 14) (c := false) rfl rfl rfl rfl rfl (by decide) ?_
    refine L.guardF (dj := 14) (c := false) rfl rfl rfl rfl rfl (by decide) ?_
    refine L.guardF (dj := 14) (c := false) rfl rfl rfl rfl rfl (by decide) ?_
    refine L.guardF (dj := 14) (c := false) rfl rfl rfl rfl rfl (by decide) ?_
    refine L.guardU (dj := 19) rfl rfl rfl rfl rfl ?_
    refine L.guardU (dj := 19) rfl rfl rfl rfl rfl ?_
    refine L.guardU (dj := 19) rfl rfl rfl rfl rfl ?_
    refine L.guardU (dj := 19) rfl rfl rfl rfl rfl ?_
    refine L.guardU (dj := 23) rfl rfl rfl rfl rfl ?_
    refine L.guardU (dj := 23) rfl rfl rfl rfl rfl ?_
    refine L.guardU (dj := 23) rfl rfl rfl rfl rfl ?_
    refine L.guardU (dj := 19) rfl rfl rfl rfl rfl ?_
    refine L.guardF (dj := 14) (c := false) rfl rfl rfl rfl rfl (by decide) ?_
    refine L.pickF rfl rfl rfl ?_
    refine L.nil ?_
    refine T.thenN ?_
    exact T.toJoin ⟨_, (by simp_all <;> omega), rfl, rfl, rfl⟩ (.cons (t := 29) rfl <| SubK.nil _) (.cons (t := 0) rfl <| .cons (t := 4) rfl <| .cons (t := 5) rfl <| .cons (t := 6) rfl <| .cons (t := 7) rfl <| SubK.nil _) qD qD qF
  rintro _ _ _ ⟨b1, hb1, rfl, rfl, rfl⟩
  refine T.norm3 qA qA qA ?_
  refine T.thenN ?_
  refine T.cond rfl (fun h29 => ?_) (fun h29 => ?_)
  ·try simp only [dq] at h29
   refine T.seq (T.region ?_)
   refine L.assign rfl rfl ?_
   refine L.nil ?_
   refine T.thenN (T.ret ?_)
   refine T.thenR ?_
   refine T.blkR ?_
   refine T.thenR ?_
   refine T.thenR ?_
   refine T.blkR ?_
   refine T.thenR ?_
   exact T.ret1 rfl rfl ⟨by rw [ref_hit hI hz (nd_1 (hb1.1 h29)) (by decide)], rfl, rfl⟩ qD qF
  ·try simp only [dq] at h29
   have hn1 : ¬ (1 < z.dep ∧ (nameB z.n = false ∨ (z.first = false ∧ z.rise = false))) := fun q => by rw [hb1.2 q] at h29; cases h29
   refine T.skip (T.thenN (T.seq (T.seq ?_)))
   refine T.cutC (fun K' D' M' => ∃ (b2 : Bool), (b2 = true ↔ ((z.k < 1 ∨ 4 < z.k) ∨ (z.k ≠ 4 ∧ z.filled = true) ∨ (z.k = 4 ∧ z.t ≠ []) ∨ (z.k = 3 ∧ z.t = []))) ∧ K' = [(66, .bool b2)] ∧ D' = [] ∧ M' = []) (M0 := []) (.cons (t := 0) rfl <| .cons (t := 4) rfl <| .cons (t := 5) rfl <| .cons (t := 6) rfl <| .cons (t := 7) rfl <| SubK.nil _) qS ?_ ?_
   ·skip
    refine T.region ?_
    first | refine L.field0 rfl fo149_2 rfl ?_ | refine L.field rfl fo149_2 rfl ?_
    refine L.load rfl sc3 rfl qC ?_
    refine L.ltI rfl rfl rfl ?_
    refine L.move rfl rfl ?_
    refine L.part (t := 33) rfl (fun h4 => ?_) (fun h4 => ?_)
    ·try simp only [dq] at h4
     refine L.guardF (dj := 33) (c := true) rfl rfl rfl rfl rfl (by decide) ?_
     refine L.guardF (dj := 33) (c := true) rfl rfl rfl rfl rfl (by decide) ?_
     refine L.guardF (dj := 33) (c := true) rfl rfl rfl rfl rfl (by decide) ?_
     refine L.pickT rfl rfl rfl ?_
     refine L.move rfl rfl ?_
     refine L.guardF (dj := 38) (c := true) rfl rfl rfl rfl rfl (by decide) ?_
     refine L.guardF (dj := 38) (c := true) rfl rfl rfl rfl rfl (by decide) ?_
     refine L.guardF (dj := 38) (c := true) rfl rfl rfl rfl rfl (by decide) ?_
     refine L.guardF (dj := 38) (c := true) rfl rfl rfl rfl rfl (by decide) ?_
     refine L.guardU (dj := 42) rfl rfl rfl rfl rfl ?_
     refine L.guardU (dj := 42) rfl rfl rfl rfl rfl ?_
     refine L.guardF (dj := 38) (c := true) rfl rfl rfl rfl rfl (by decide) ?_
     refine L.pickT rfl rfl rfl ?_
     refine L.move rfl rfl ?_
     refine L.guardF (dj := 47) (c := true) rfl rfl rfl rfl rfl (by decide) ?_
     refine L.guardF (dj := 47) (c := true) rfl rfl rfl rfl rfl (by decide) ?_
     refine L.guardF (dj := 47) (c := true) rfl rfl rfl rfl rfl (by decide) ?_
     refine L.guardF (dj := 47) (c := true) rfl rfl rfl rfl rfl (by decide) ?_
     refine L.guardU (dj := 51) rfl rfl rfl rfl rfl ?_
     refine L.guardU (dj := 51) rfl rfl rfl rfl rfl ?_
     refine L.guardU (dj := 51) rfl rfl rfl rfl rfl ?_
     refine L.guardF (dj := 47) (c := true) rfl rfl rfl rfl rfl (by decide) ?_
     refine L.pickT rfl rfl rfl ?_
     refine L.move rfl rfl ?_
     refine L.guardF (dj := 57) (c := true) rfl rfl rfl rfl rfl (by decide) ?_
     refine L.guardF (dj := 57) (c := true) rfl rfl rfl rfl rfl (by decide) ?_
     refine L.guardF (dj := 57) (c := true) rfl rfl rfl rfl rfl (by decide) ?_
     refine L.guardF (dj := 57) (c := true) rfl rfl rfl rfl rfl (by decide) ?_
     refine L.guardU (dj := 61) rfl rfl rfl rfl rfl ?_
     refine L.guardU (dj := 61) rfl rfl rfl rfl rfl ?_
     refine L.guardU (dj := 61) rfl rfl rfl rfl rfl ?_
     refine L.guardF (dj := 57) (c := true) rfl rfl rfl rfl rfl (by decide) ?_
     refine L.pickT rfl rfl rfl ?_
     refine L.nil ?_
     refine T.thenN ?_
     exact T.toJoin ⟨_, (by simp_all <;> omega), rfl, rfl, rfl⟩ (.cons (t := 66) rfl <| SubK.nil _) (.cons (t := 0) rfl <| .cons (t := 4) rfl <| .cons (t := 5) rfl <| .cons (t := 6) rfl <| .cons (t := 7) rfl <| SubK.nil _) qD qD qF
    ·try simp only [dq] at h4
     refine L.guardT (dj := 33) rfl rfl rfl ?_
     first | refine L.field0 rfl fo149_2 rfl ?_ | refine L.field rfl fo149_2 rfl ?_
     refine L.guardT (dj := 33) rfl rfl rfl ?_
     refine L.load rfl sc3 rfl qC ?_
     refine L.guardT (dj := 33) rfl rfl rfl ?_
     refine L.gtI rfl rfl rfl ?_
     refine L.pickF rfl rfl rfl ?_
     refine L.move rfl rfl ?_
     refine L.part (t := 38) rfl (fun h5 => ?_) (fun h5 => ?_)
     ·try simp only [dq] at h5
      refine L.guardF (dj := 38) (c := true) rfl rfl rfl rfl rfl (by decide) ?_
      refine L.guardF (dj := 38) (c := true) rfl rfl rfl rfl rfl (by decide) ?_
      refine L.guardF (dj := 38) (c := true) rfl rfl rfl rfl rfl (by decide) ?_
      refine L.guardF (dj := 38) (c := true) rfl rfl rfl rfl rfl (by decide) ?_
      refine L.guardU (dj := 42) rfl rfl rfl rfl rfl ?_
      refine L.guardU (dj := 42) rfl rfl rfl rfl rfl ?_
      refine L.guardF (dj := 38) (c := true) rfl rfl rfl rfl rfl (by decide) ?_
      refine L.pickT rfl rfl rfl ?_
      refine L.move rfl rfl ?_
      refine L.guardF (dj := 47) (c := true) rfl rfl rfl rfl rfl (by decide) ?_
      refine L.guardF (dj := 47) (c := true) rfl rfl rfl rfl rfl (by decide) ?_
      refine L.guardF (dj := 47) (c := true) rfl rfl rfl rfl rfl (by decide) ?_
      refine L.guardF (dj := 47) (c := true) rfl rfl rfl rfl rfl (by decide) ?_
      refine L.guardU (dj := 51) rfl rfl rfl rfl rfl ?_
      refine L.guardU (dj := 51) rfl rfl rfl rfl rfl ?_
      refine L.guardU (dj := 51) rfl rfl rfl rfl rfl ?_
      refine L.guardF (dj := 47) (c := true) rfl rfl rfl rfl rfl (by decide) ?_
      refine L.pickT rfl rfl rfl ?_
      refine L.move rfl rfl ?_
      refine L.guardF (dj := 57) (c := true) rfl rfl rfl rfl rfl (by decide) ?_
      refine L.guardF (dj := 57) (c := true) rfl rfl rfl rfl rfl (by decide) ?_
      refine L.guardF (dj := 57) (c := true) rfl rfl rfl rfl rfl (by decide) ?_
      refine L.guardF (dj := 57) (c := true) rfl rfl rfl rfl rfl (by decide) ?_
      refine L.guardU (dj := 61) rfl rfl rfl rfl rfl ?_
      refine L.guardU (dj := 61) rfl rfl rfl rfl rfl ?_
      refine L.guardU (dj := 61) rfl rfl rfl rfl rfl ?_
      refine L.guardF (dj := 57) (c := true) rfl rfl rfl rfl rfl (by decide) ?_
      refine L.pickT rfl rfl rfl ?_
      refine L.nil ?_
      refine T.thenN ?_
      exact T.toJoin ⟨_, (by simp_all <;> omega), rfl, rfl, rfl⟩ (.cons (t := 66) rfl <| SubK.nil _) (.cons (t := 0) rfl <| .cons (t := 4) rfl <| .cons (t := 5) rfl <| .cons (t := 6) rfl <| .cons (t := 7) rfl <| SubK.nil _) qD qD qF
     ·try simp only [dq] at h5
      refine L.guardT (dj := 38) rfl rfl rfl ?_
      first | refine L.field0 rfl fo149_2 rfl ?_ | refine L.field rfl fo149_2 rfl ?_
      refine L.guardT (dj := 38) rfl rfl rfl ?_
      refine L.load rfl sc3 rfl qC ?_
      refine L.guardT (dj := 38) rfl rfl rfl ?_
      refine L.neI rfl rfl rfl ?_
      refine L.guardT (dj := 38) rfl rfl rfl ?_
      refine L.move rfl rfl ?_
      refine L.part (t := 42) rfl (fun h6 => ?_) (fun h6 => ?_)
      ·try simp only [dq] at h6
       refine L.guardT (dj := 42) rfl rfl rfl ?_
       first | refine L.field0 rfl fo149_4 rfl ?_ | refine L.field rfl fo149_4 rfl ?_
       refine L.guardT (dj := 42) rfl rfl rfl ?_
       refine L.load rfl sc4 rfl qC ?_
       refine L.guardT (dj := 38) rfl rfl rfl ?_
       refine L.pickT rfl rfl rfl ?_
       refine L.pickF rfl rfl rfl ?_
       refine L.move rfl rfl ?_
       refine L.part (t := 47) rfl (fun h7 => ?_) (fun h7 => ?_)
       ·try simp only [dq] at h7
        refine L.guardF (dj := 47) (c := true) rfl rfl rfl rfl rfl (by decide) ?_
        refine L.guardF (dj := 47) (c := true) rfl rfl rfl rfl rfl (by decide) ?_
        refine L.guardF (dj := 47) (c := true) rfl rfl rfl rfl rfl (by decide) ?_
        refine L.guardF (dj := 47) (c := true) rfl rfl rfl rfl rfl (by decide) ?_
        refine L.guardU (dj := 51) rfl rfl rfl rfl rfl ?_
        refine L.guardU (dj := 51) rfl rfl rfl rfl rfl ?_
        refine L.guardU (dj := 51) rfl rfl rfl rfl rfl ?_
        refine L.guardF (dj := 47) (c := true) rfl rfl rfl rfl rfl (by decide) ?_
        refine L.pickT rfl rfl rfl ?_
        refine L.move rfl rfl ?_
        refine L.guardF (dj := 57) (c := true) rfl rfl rfl rfl rfl (by decide) ?_
        refine L.guardF (dj := 57) (c := true) rfl rfl rfl rfl rfl (by decide) ?_
        refine L.guardF (dj := 57) (c := true) rfl rfl rfl rfl rfl (by decide) ?_
        refine L.guardF (dj := 57) (c := true) rfl rfl rfl rfl rfl (by decide) ?_
        refine L.guardU (dj := 61) rfl rfl rfl rfl rfl ?_
        refine L.guardU (dj := 61) rfl rfl rfl rfl rfl ?_
        refine L.guardU (dj := 61) rfl rfl rfl rfl rfl ?_
        refine L.guardF (dj := 57) (c := true) rfl rfl rfl rfl rfl (by decide) ?_
        refine L.pickT rfl rfl rfl ?_
        refine L.nil ?_
        refine T.thenN ?_
        exact T.toJoin ⟨_, (by simp_all <;> omega), rfl, rfl, rfl⟩ (.cons (t := 66) rfl <| SubK.nil _) (.cons (t := 0) rfl <| .cons (t := 4) rfl <| .cons (t := 5) rfl <| .cons (t := 6) rfl <| .cons (t := 7) rfl <| SubK.nil _) qD qD qF
       ·try simp only [dq] at h7
        refine L.guardT (dj := 47) rfl rfl rfl ?_
        first | refine L.field0 rfl fo149_2 rfl ?_ | refine L.field rfl fo149_2 rfl ?_
        refine L.guardT (dj := 47) rfl rfl rfl ?_
        refine L.load rfl sc3 rfl qC ?_
        refine L.guardT (dj := 47) rfl rfl rfl ?_
        refine L.eqI rfl rfl rfl ?_
        refine L.guardT (dj := 47) rfl rfl rfl ?_
        refine L.move rfl rfl ?_
        refine L.part (t := 51) rfl (fun h8 => ?_) (fun h8 => ?_)
        ·try simp only [dq] at h8
         refine L.guardT (dj := 51) rfl rfl rfl ?_
         first | refine L.field0 rfl fo149_3 rfl ?_ | refine L.field rfl fo149_3 rfl ?_
         refine L.guardT (dj := 51) rfl rfl rfl ?_
         refine L.load rfl sc9 rfl qC ?_
         refine L.guardT (dj := 51) rfl rfl rfl ?_
         refine L.neS rfl rfl rfl ?_
         refine L.guardT (dj := 47) rfl rfl rfl ?_
         refine L.pickT rfl rfl rfl ?_
         refine L.pickF rfl rfl rfl ?_
         refine L.move rfl rfl ?_
         refine L.part (t := 57) rfl (fun h9 => ?_) (fun h9 => ?_)
         ·try simp only [dq] at h9
          refine L.guardF (dj := 57) (c := true) rfl rfl rfl rfl rfl (by decide) ?_
          refine L.guardF (dj := 57) (c := true) rfl rfl rfl rfl rfl (by decide) ?_
          refine L.guardF (dj := 57) (c := true) rfl rfl rfl rfl rfl (by decide) ?_
          refine L.guardF (dj := 57) (c := true) rfl rfl rfl rfl rfl (by decide) ?_
          refine L.guardU (dj := 61) rfl rfl rfl rfl rfl ?_
          refine L.guardU (dj := 61) rfl rfl rfl rfl rfl ?_
          refine L.guardU (dj := 61) rfl rfl rfl rfl rfl ?_
          refine L.guardF (dj := 57) (c := true) rfl rfl rfl rfl rfl (by decide) ?_
          refine L.pickT rfl rfl rfl ?_
          refine L.nil ?_
          refine T.thenN ?_
          exact T.toJoin ⟨_, (by simp_all <;> omega), rfl, rfl, rfl⟩ (.cons (t := 66) rfl <| SubK.nil _) (.cons (t := 0) rfl <| .cons (t := 4) rfl <| .cons (t := 5) rfl <| .cons (t := 6) rfl <| .cons (t := 7) rfl <| SubK.nil _) qD qD qF
         ·try simp only [dq] at h9
          refine L.guardT (dj := 57) rfl rfl rfl ?_
          first | refine L.field0 rfl fo149_2 rfl ?_ | refine L.field rfl fo149_2 rfl ?_
          refine L.guardT (dj := 57) rfl rfl rfl ?_
          refine L.load rfl sc3 rfl qC ?_
          refine L.guardT (dj := 57) rfl rfl rfl ?_
          refine L.eqI rfl rfl rfl ?_
          refine L.guardT (dj := 57) rfl rfl rfl ?_
          refine L.move rfl rfl ?_
          refine L.part (t := 61) rfl (fun h10 => ?_) (fun h10 => ?_)
          ·try simp only [dq] at h10
           refine L.guardT (dj := 61) rfl rfl rfl ?_
           first | refine L.field0 rfl fo149_3 rfl ?_ | refine L.field rfl fo149_3 rfl ?_
           refine L.guardT (dj := 61) rfl rfl rfl ?_
           refine L.load rfl sc9 rfl qC ?_
           refine L.guardT (dj := 61) rfl rfl rfl ?_
           refine L.eqS rfl rfl rfl ?_
           refine L.guardT (dj := 57) rfl rfl rfl ?_
           refine L.pickT rfl rfl rfl ?_
           refine L.pickF rfl rfl rfl ?_
           refine L.nil ?_
           refine T.thenN ?_
           exact T.toJoin ⟨_, (by simp_all <;> omega), rfl, rfl, rfl⟩ (.cons (t := 66) rfl <| SubK.nil _) (.cons (t := 0) rfl <| .cons (t := 4) rfl <| .cons (t := 5) rfl <| .cons (t := 6) rfl <| .cons (t := 7) rfl <| SubK.nil _) qD qD qF
          ·try simp only [dq] at h10
           refine L.guardF (dj := 61) (c := false) rfl rfl rfl rfl rfl (by decide) ?_
           refine L.guardF (dj := 61) (c := false) rfl rfl rfl rfl rfl (by decide) ?_
           refine L.guardF (dj := 61) (c := false) rfl rfl rfl rfl rfl (by decide) ?_
           refine L.guardT (dj := 57) rfl rfl rfl ?_
           refine L.pickF rfl rfl rfl ?_
           refine L.pickF rfl rfl rfl ?_
           refine L.nil ?_
           refine T.thenN ?_
           exact T.toJoin ⟨_, (by simp_all <;> omega), rfl, rfl, rfl⟩ (.cons (t := 66) rfl <| SubK.nil _) (.cons (t := 0) rfl <| .cons (t := 4) rfl <| .cons (t := 5) rfl <| .cons (t := 6) rfl <| .cons (t := 7) rfl <| SubK.nil _) qD qD qF
        ·try simp only [dq] at h8
         refine L.guardF (dj := 51) (c := false) rfl rfl rfl rfl rfl (by decide) ?_
         refine L.guardF (dj := 51) (c := false) rfl rfl rfl rfl rfl (by decide) ?_
         refine L.guardF (dj := 51) (c := false) rfl rfl rfl rfl rfl (by decide) ?_
         refine L.guardT (dj := 47) rfl rfl rfl ?_
         refine L.pickF rfl rfl rfl ?_
         refine L.pickF rfl rfl rfl ?_
         refine L.move rfl rfl ?_
         refine L.guardT (dj := 57) rfl rfl rfl ?_
         first | refine L.field0 rfl fo149_2 rfl ?_ | refine L.field rfl fo149_2 rfl ?_
         refine L.guardT (dj := 57) rfl rfl rfl ?_
         refine L.load rfl sc3 rfl qC ?_
         refine L.guardT (dj := 57) rfl rfl rfl ?_
         refine L.eqI rfl rfl rfl ?_
         refine L.guardT (dj := 57) rfl rfl rfl ?_
         refine L.move rfl rfl ?_
         refine L.part (t := 61) rfl (fun h11 => ?_) (fun h11 => ?_)
         ·try simp only [dq] at h11
          refine L.guardT (dj := 61) rfl rfl rfl ?_
          first | refine L.field0 rfl fo149_3 rfl ?_ | refine L.field rfl fo149_3 rfl ?_
          refine L.guardT (dj := 61) rfl rfl rfl ?_
          refine L.load rfl sc9 rfl qC ?_
          refine L.guardT (dj := 61) rfl rfl rfl ?_
          refine L.eqS rfl rfl rfl ?_
          refine L.guardT (dj := 57) rfl rfl rfl ?_
          refine L.pickT rfl rfl rfl ?_
          refine L.pickF rfl rfl rfl ?_
          refine L.nil ?_
          refine T.thenN ?_
          exact T.toJoin ⟨_, (by simp_all <;> omega), rfl, rfl, rfl⟩ (.cons (t := 66) rfl <| SubK.nil _) (.cons (t := 0) rfl <| .cons (t := 4) rfl <| .cons (t := 5) rfl <| .cons (t := 6) rfl <| .cons (t := 7) rfl <| SubK.nil _) qD qD qF
         ·try simp only [dq] at h11
          refine L.guardF (dj := 61) (c := false) rfl rfl rfl rfl rfl (by decide) ?_
          refine L.guardF (dj := 61) (c := false) rfl rfl rfl rfl rfl (by decide) ?_
          refine L.guardF (dj := 61) (c := false) rfl rfl rfl rfl rfl (by decide) ?_
          refine L.guardT (dj := 57) rfl rfl rfl ?_
          refine L.pickF rfl rfl rfl ?_
          refine L.pickF rfl rfl rfl ?_
          refine L.nil ?_
          refine T.thenN ?_
          exact T.toJoin ⟨_, (by simp_all <;> omega), rfl, rfl, rfl⟩ (.cons (t := 66) rfl <| SubK.nil _) (.cons (t := 0) rfl <| .cons (t := 4) rfl <| .cons (t := 5) rfl <| .cons (t := 6) rfl <| .cons (t := 7) rfl <| SubK.nil _) qD qD qF
      ·try simp only [dq] at h6
       refine L.guardF (dj := 42) (c := false) rfl rfl rfl rfl rfl (by decide) ?_
       refine L.guardF (dj := 42) (c := false) rfl rfl rfl rfl rfl (by decide) ?_
       refine L.guardT (dj := 38) rfl rfl rfl ?_
       refine L.pickF rfl rfl rfl ?_
       refine L.pickF rfl rfl rfl ?_
       refine L.move rfl rfl ?_
       refine L.guardT (dj := 47) rfl rfl rfl ?_
       first | refine L.field0 rfl fo149_2 rfl ?_ | refine L.field rfl fo149_2 rfl ?_
       refine L.guardT (dj := 47) rfl rfl rfl ?_
       refine L.load rfl sc3 rfl qC ?_
       refine L.guardT (dj := 47) rfl rfl rfl ?_
       refine L.eqI rfl rfl rfl ?_
       refine L.guardT (dj := 47) rfl rfl rfl ?_
       refine L.move rfl rfl ?_
       refine L.part (t := 51) rfl (fun h12 => ?_) (fun h12 => ?_)
       ·try simp only [dq] at h12
        refine L.guardT (dj := 51) rfl rfl rfl ?_
        first | refine L.field0 rfl fo149_3 rfl ?_ | refine L.field rfl fo149_3 rfl ?_
        refine L.guardT (dj := 51) rfl rfl rfl ?_
        refine L.load rfl sc9 rfl qC ?_
        refine L.guardT (dj := 51) rfl rfl rfl ?_
        refine L.neS rfl rfl rfl ?_
        refine L.guardT (dj := 47) rfl rfl rfl ?_
        refine L.pickT rfl rfl rfl ?_
        refine L.pickF rfl rfl rfl ?_
        refine L.move rfl rfl ?_
        refine L.part (t := 57) rfl (fun h13 => ?_) (fun h13 => ?_)
        ·try simp only [dq] at h13
         refine L.guardF (dj := 57) (c := true) rfl rfl rfl rfl rfl (by decide) ?_
         refine L.guardF (dj := 57) (c := true) rfl rfl rfl rfl rfl (by decide) ?_
         refine L.guardF (dj := 57) (c := true) rfl rfl rfl rfl rfl (by decide) ?_
         refine L.guardF (dj := 57) (c := true) rfl rfl rfl rfl rfl (by decide) ?_
         refine L.guardU (dj := 61) rfl rfl rfl rfl rfl ?_
         refine L.guardU (dj := 61) rfl rfl rfl rfl rfl ?_
         refine L.guardU (dj := 61) rfl rfl rfl rfl rfl ?_
         refine L.guardF (dj := 57) (c := true) rfl rfl rfl rfl rfl (by decide) ?_
         refine L.pickT rfl rfl rfl ?_
         refine L.nil ?_
         refine T.thenN ?_
         exact T.toJoin ⟨_, (by simp_all <;> omega), rfl, rfl, rfl⟩ (.cons (t := 66) rfl <| SubK.nil _) (.cons (t := 0) rfl <| .cons (t := 4) rfl <| .cons (t := 5) rfl <| .cons (t := 6) rfl <| .cons (t := 7) rfl <| SubK.nil _) qD qD qF
        ·try simp only [dq] at h13
         refine L.guardT (dj := 57) rfl rfl rfl ?_
         first | refine L.field0 rfl fo149_2 rfl ?_ | refine L.field rfl fo149_2 rfl ?_
         refine L.guardT (dj := 57) rfl rfl rfl ?_
         refine L.load rfl sc3 rfl qC ?_
         refine L.guardT (dj := 57) rfl rfl rfl ?_
         refine L.eqI rfl rfl rfl ?_
         refine L.guardT (dj := 57) rfl rfl rfl ?_
         refine L.move rfl rfl ?_
         refine L.part (t := 61) rfl (fun h14 => ?_) (fun h14 => ?_)
         ·try simp only [dq] at h14
          refine L.guardT (dj := 61) rfl rfl rfl ?_
          first | refine L.field0 rfl fo149_3 rfl ?_ | refine L.field rfl fo149_3 rfl ?_
          refine L.guardT (dj := 61) rfl rfl rfl ?_
          refine L.load rfl sc9 rfl qC ?_
          refine L.guardT (dj := 61) rfl rfl rfl ?_
          refine L.eqS rfl rfl rfl ?_
          refine L.guardT (dj := 57) rfl rfl rfl ?_
          refine L.pickT rfl rfl rfl ?_
          refine L.pickF rfl rfl rfl ?_
          refine L.nil ?_
          refine T.thenN ?_
          exact T.toJoin ⟨_, (by simp_all <;> omega), rfl, rfl, rfl⟩ (.cons (t := 66) rfl <| SubK.nil _) (.cons (t := 0) rfl <| .cons (t := 4) rfl <| .cons (t := 5) rfl <| .cons (t := 6) rfl <| .cons (t := 7) rfl <| SubK.nil _) qD qD qF
         ·try simp only [dq] at h14
          refine L.guardF (dj := 61) (c := false) rfl rfl rfl rfl rfl (by decide) ?_
          refine L.guardF (dj := 61) (c := false) rfl rfl rfl rfl rfl (by decide) ?_
          refine L.guardF (dj := 61) (c := false) rfl rfl rfl rfl rfl (by decide) ?_
          refine L.guardT (dj := 57) rfl rfl rfl ?_
          refine L.pickF rfl rfl rfl ?_
          refine L.pickF rfl rfl rfl ?_
          refine L.nil ?_
          refine T.thenN ?_
          exact T.toJoin ⟨_, (by simp_all <;> omega), rfl, rfl, rfl⟩ (.cons (t := 66) rfl <| SubK.nil _) (.cons (t := 0) rfl <| .cons (t := 4) rfl <| .cons (t := 5) rfl <| .cons (t := 6) rfl <| .cons (t := 7) rfl <| SubK.nil _) qD qD qF
       ·try simp only [dq] at h12
        refine L.guardF (dj := 51) (c := false) rfl rfl rfl rfl rfl (by decide) ?_
        refine L.guardF (dj := 51) (c := false) rfl rfl rfl rfl rfl (by decide) ?_
        refine L.guardF (dj := 51) (c := false) rfl rfl rfl rfl rfl (by decide) ?_
        refine L.guardT (dj := 47) rfl rfl rfl ?_
        refine L.pickF rfl rfl rfl ?_
        refine L.pickF rfl rfl rfl ?_
        refine L.move rfl rfl ?_
        refine L.guardT (dj := 57) rfl rfl rfl ?_
        first | refine L.field0 rfl fo149_2 rfl ?_ | refine L.field rfl fo149_2 rfl ?_
        refine L.guardT (dj := 57) rfl rfl rfl ?_
        refine L.load rfl sc3 rfl qC ?_
        refine L.guardT (dj := 57) rfl rfl rfl ?_
        refine L.eqI rfl rfl rfl ?_
        refine L.guardT (dj := 57) rfl rfl rfl ?_
        refine L.move rfl rfl ?_
        refine L.part (t := 61) rfl (fun h15 => ?_) (fun h15 => ?_)
        ·try simp only [dq] at h15
         refine L.guardT (dj := 61) rfl rfl rfl ?_
         first | refine L.field0 rfl fo149_3 rfl ?_ | refine L.field rfl fo149_3 rfl ?_
         refine L.guardT (dj := 61) rfl rfl rfl ?_
         refine L.load rfl sc9 rfl qC ?_
         refine L.guardT (dj := 61) rfl rfl rfl ?_
         refine L.eqS rfl rfl rfl ?_
         refine L.guardT (dj := 57) rfl rfl rfl ?_
         refine L.pickT rfl rfl rfl ?_
         refine L.pickF rfl rfl rfl ?_
         refine L.nil ?_
         refine T.thenN ?_
         exact T.toJoin ⟨_, (by simp_all <;> omega), rfl, rfl, rfl⟩ (.cons (t := 66) rfl <| SubK.nil _) (.cons (t := 0) rfl <| .cons (t := 4) rfl <| .cons (t := 5) rfl <| .cons (t := 6) rfl <| .cons (t := 7) rfl <| SubK.nil _) qD qD qF
        ·try simp only [dq] at h15
         refine L.guardF (dj := 61) (c := false) rfl rfl rfl rfl rfl (by decide) ?_
         refine L.guardF (dj := 61) (c := false) rfl rfl rfl rfl rfl (by decide) ?_
         refine L.guardF (dj := 61) (c := false) rfl rfl rfl rfl rfl (by decide) ?_
         refine L.guardT (dj := 57) rfl rfl rfl ?_
         refine L.pickF rfl rfl rfl ?_
         refine L.pickF rfl rfl rfl ?_
         refine L.nil ?_
         refine T.thenN ?_
         exact T.toJoin ⟨_, (by simp_all <;> omega), rfl, rfl, rfl⟩ (.cons (t := 66) rfl <| SubK.nil _) (.cons (t := 0) rfl <| .cons (t := 4) rfl <| .cons (t := 5) rfl <| .cons (t := 6) rfl <| .cons (t := 7) rfl <| SubK.nil _) qD qD qF
   rintro _ _ _ ⟨b2, hb2, rfl, rfl, rfl⟩
   refine T.norm3 qA qA qA ?_
   refine T.thenN ?_
   refine T.cond rfl (fun h66 => ?_) (fun h66 => ?_)
   ·try simp only [dq] at h66
    refine T.seq (T.region ?_)
    refine L.assign rfl rfl ?_
    refine L.nil ?_
    refine T.thenN (T.ret ?_)
    refine T.thenR ?_
    refine T.blkR ?_
    refine T.thenR ?_
    refine T.thenR ?_
    refine T.blkR ?_
    refine T.thenR ?_
    exact T.ret1 rfl rfl ⟨by rw [ref_hit hI hz (nd_2 hn1 (own0_12 (hb2.1 h66))) (by decide)], rfl, rfl⟩ qD qF
   ·try simp only [dq] at h66
    have hn2 : ¬ ((z.k < 1 ∨ 4 < z.k) ∨ (z.k ≠ 4 ∧ z.filled = true) ∨ (z.k = 4 ∧ z.t ≠ []) ∨ (z.k = 3 ∧ z.t = [])) := fun q => by rw [hb2.2 q] at h66; cases h66
    refine T.skip (T.thenN (T.seq (T.seq ?_)))
    refine T.cutC (fun K' D' M' => ∃ (b3 : Bool), (b3 = true ↔ (z.k = 3 ∧ (24 < z.t.length ∨ (0 : UInt8) ∈ z.t))) ∧ K' = [(80, .bool b3)] ∧ D' = [] ∧ M' = []) (M0 := []) (.cons (t := 0) rfl <| .cons (t := 4) rfl <| .cons (t := 5) rfl <| .cons (t := 6) rfl <| .cons (t := 7) rfl <| SubK.nil _) qS ?_ ?_
    ·skip
     refine T.region ?_
     first | refine L.field0 rfl fo149_2 rfl ?_ | refine L.field rfl fo149_2 rfl ?_
     refine L.load rfl sc3 rfl qC ?_
     refine L.eqI rfl rfl rfl ?_
     refine L.move rfl rfl ?_
     refine L.part (t := 70) rfl (fun h16 => ?_) (fun h16 => ?_)
     ·try simp only [dq] at h16
      refine L.guardT (dj := 70) rfl rfl rfl ?_
      first | refine L.field0 rfl fo149_3 rfl ?_ | refine L.field rfl fo149_3 rfl ?_
      refine L.guardT (dj := 70) rfl rfl rfl ?_
      refine L.load rfl sc9 rfl qC ?_
      refine L.guardT (dj := 70) rfl rfl rfl ?_
      refine L.lenStr rfl Tryz.underlying9 rfl ?_
      refine L.guardT (dj := 70) rfl rfl rfl ?_
      refine L.gtI rfl rfl rfl ?_
      refine L.guardT (dj := 70) rfl rfl rfl ?_
      refine L.move rfl rfl ?_
      refine L.part (t := 75) rfl (fun h17 => ?_) (fun h17 => ?_)
      ·try simp only [dq] at h17
       refine L.guardF (dj := 75) (c := true) rfl rfl rfl rfl rfl (by decide) ?_
       refine L.guardF (dj := 75) (c := true) rfl rfl rfl rfl rfl (by decide) ?_
       refine L.guardF (dj := 75) (c := true) rfl rfl rfl rfl rfl (by decide) ?_
       refine L.guardT (dj := 70) rfl rfl rfl ?_
       refine L.pickT rfl rfl rfl ?_
       refine L.pickT rfl rfl rfl ?_
       refine L.nil ?_
       refine T.thenN ?_
       exact T.toJoin ⟨_, (by simp_all <;> omega), rfl, rfl, rfl⟩ (.cons (t := 80) rfl <| SubK.nil _) (.cons (t := 0) rfl <| .cons (t := 4) rfl <| .cons (t := 5) rfl <| .cons (t := 6) rfl <| .cons (t := 7) rfl <| SubK.nil _) qD qD qF
      ·try simp only [dq] at h17
       refine L.guardT (dj := 75) rfl rfl rfl ?_
       first | refine L.field0 rfl fo149_3 rfl ?_ | refine L.field rfl fo149_3 rfl ?_
       refine L.guardT (dj := 75) rfl rfl rfl ?_
       refine L.load rfl sc9 rfl qC ?_
       refine L.guardT (dj := 75) rfl rfl rfl ?_
       refine L.callF rfl (evs.cons rfl <| evs.cons rfl <| evs.nil) qD qS (bad_spec (l := z.t) (c := 0) (by have := hzs.2; omega)) (by rintro u D1 M1 ⟨rfl, rfl, rfl⟩; exact ⟨rfl, _, qA, qF⟩) ?_
       refine L.guardT (dj := 70) rfl rfl rfl ?_
       refine L.pickF rfl rfl rfl ?_
       refine L.pickT rfl rfl rfl ?_
       refine L.nil ?_
       refine T.thenN ?_
       exact T.toJoin ⟨_, (by simp_all <;> omega), rfl, rfl, rfl⟩ (.cons (t := 80) rfl <| SubK.nil _) (.cons (t := 0) rfl <| .cons (t := 4) rfl <| .cons (t := 5) rfl <| .cons (t := 6) rfl <| .cons (t := 7) rfl <| SubK.nil _) qD qD qF
     ·try simp only [dq] at h16
      refine L.guardF (dj := 70) (c := false) rfl rfl rfl rfl rfl (by decide) ?_
      refine L.guardF (dj := 70) (c := false) rfl rfl rfl rfl rfl (by decide) ?_
      refine L.guardF (dj := 70) (c := false) rfl rfl rfl rfl rfl (by decide) ?_
      refine L.guardF (dj := 70) (c := false) rfl rfl rfl rfl rfl (by decide) ?_
      refine L.guardF (dj := 70) (c := false) rfl rfl rfl rfl rfl (by decide) ?_
      refine L.guardU (dj := 75) rfl rfl rfl rfl rfl ?_
      refine L.guardU (dj := 75) rfl rfl rfl rfl rfl ?_
      refine L.guardU (dj := 75) rfl rfl rfl rfl rfl ?_
      refine L.guardF (dj := 70) (c := false) rfl rfl rfl rfl rfl (by decide) ?_
      refine L.pickF rfl rfl rfl ?_
      refine L.nil ?_
      refine T.thenN ?_
      exact T.toJoin ⟨_, (by simp_all <;> omega), rfl, rfl, rfl⟩ (.cons (t := 80) rfl <| SubK.nil _) (.cons (t := 0) rfl <| .cons (t := 4) rfl <| .cons (t := 5) rfl <| .cons (t := 6) rfl <| .cons (t := 7) rfl <| SubK.nil _) qD qD qF
    rintro _ _ _ ⟨b3, hb3, rfl, rfl, rfl⟩
    refine T.norm3 qA qA qA ?_
    refine T.thenN ?_
    refine T.cond rfl (fun h80 => ?_) (fun h80 => ?_)
    ·try simp only [dq] at h80
     refine T.seq (T.region ?_)
     refine L.assign rfl rfl ?_
     refine L.nil ?_
     refine T.thenN (T.ret ?_)
     refine T.thenR ?_
     refine T.blkR ?_
     refine T.thenR ?_
     refine T.thenR ?_
     refine T.blkR ?_
     refine T.thenR ?_
     exact T.ret1 rfl rfl ⟨by rw [ref_hit hI hz (nd_2 hn1 (own0_3 (fun q => hn2 (.inl q)) (fun q => hn2 (.inr q)) (hb3.1 h80))) (by decide)], rfl, rfl⟩ qD qF
    ·try simp only [dq] at h80
     have hn3 : ¬ (z.k = 3 ∧ (24 < z.t.length ∨ (0 : UInt8) ∈ z.t)) := fun q => by rw [hb3.2 q] at h80; cases h80
     refine T.skip (T.thenN (T.seq ?_))
     refine T.cutC (fun K' D' M' => ∃ (b4 : Bool), (b4 = true ↔ (8192 < z.t.length ∨ 8 < z.dep)) ∧ K' = [(89, .bool b4)] ∧ D' = [] ∧ M' = []) (M0 := []) (.cons (t := 0) rfl <| .cons (t := 5) rfl <| .cons (t := 6) rfl <| .cons (t := 7) rfl <| SubK.nil _) qS ?_ ?_
     ·skip
      refine T.region ?_
      first | refine L.field0 rfl fo149_3 rfl ?_ | refine L.field rfl fo149_3 rfl ?_
      refine L.load rfl sc9 rfl qC ?_
      refine L.lenStr rfl Tryz.underlying9 rfl ?_
      refine L.gtI rfl rfl rfl ?_
      refine L.move rfl rfl ?_
      refine L.part (t := 85) rfl (fun h18 => ?_) (fun h18 => ?_)
      ·try simp only [dq] at h18
       refine L.guardF (dj := 85) (c := true) rfl rfl rfl rfl rfl (by decide) ?_
       refine L.guardF (dj := 85) (c := true) rfl rfl rfl rfl rfl (by decide) ?_
       refine L.guardF (dj := 85) (c := true) rfl rfl rfl rfl rfl (by decide) ?_
       refine L.pickT rfl rfl rfl ?_
       refine L.nil ?_
       refine T.thenN ?_
       exact T.toJoin ⟨_, (by simp_all <;> omega), rfl, rfl, rfl⟩ (.cons (t := 89) rfl <| SubK.nil _) (.cons (t := 0) rfl <| .cons (t := 5) rfl <| .cons (t := 6) rfl <| .cons (t := 7) rfl <| SubK.nil _) qD qD qF
      ·try simp only [dq] at h18
       refine L.guardT (dj := 85) rfl rfl rfl ?_
       first | refine L.field0 rfl fo149_0 rfl ?_ | refine L.field rfl fo149_0 rfl ?_
       refine L.guardT (dj := 85) rfl rfl rfl ?_
       refine L.load rfl sc3 rfl qC ?_
       refine L.guardT (dj := 85) rfl rfl rfl ?_
       refine L.gtI rfl rfl rfl ?_
       refine L.pickF rfl rfl rfl ?_
       refine L.nil ?_
       refine T.thenN ?_
       exact T.toJoin ⟨_, (by simp_all <;> omega), rfl, rfl, rfl⟩ (.cons (t := 89) rfl <| SubK.nil _) (.cons (t := 0) rfl <| .cons (t := 5) rfl <| .cons (t := 6) rfl <| .cons (t := 7) rfl <| SubK.nil _) qD qD qF
     rintro _ _ _ ⟨b4, hb4, rfl, rfl, rfl⟩
     refine T.norm3 qA qA qA ?_
     refine T.thenN ?_
     refine T.cond rfl (fun h89 => ?_) (fun h89 => ?_)
     ·try simp only [dq] at h89
      refine T.seq (T.region ?_)
      refine L.assign rfl rfl ?_
      refine L.nil ?_
      refine T.thenN (T.ret (T.blkR ?_))
      refine T.thenR ?_
      refine T.thenR ?_
      refine T.blkR ?_
      refine T.thenR ?_
      exact T.ret1 rfl rfl ⟨by rw [ref_hit hI hz (nd_2 hn1 (own0_4 (fun q => hn2 (.inl q)) (fun q => hn2 (.inr q)) hn3 (hb4.1 h89))) (by decide)], rfl, rfl⟩ qD qF
     ·try simp only [dq] at h89
      have hn4 : ¬ (8192 < z.t.length ∨ 8 < z.dep) := fun q => by rw [hb4.2 q] at h89; cases h89
      refine T.skip (T.blkN (T.thenN (T.region ?_)))
      refine L.addN rfl rfl rfl (by omega) ?_
      refine L.move rfl rfl ?_
      refine L.nil ?_
      refine T.thenN ?_
      exact T.back ⟨i + 1, ⟨by omega, by rw [hI, errL_drop hz, nd_2 hn1 (own0_5 (fun q => hn2 (.inl q)) (fun q => hn2 (.inr q)) hn3 hn4), if_neg (by simp)]⟩, rfl, rfl, rfl, rfl⟩ qI (.cons (t := 7) rfl <| SubK.nil _) (.cons (t := 0) rfl <| .cons (t := 5) rfl <| .cons (t := 6) rfl <| SubK.nil _) qD qD qF
 ·try simp only [dq] at h8
  refine T.exit (T.thenX (T.thenX (T.blkX (T.thenN (T.seq (T.seq (T.region ?_)))))))
  refine L.move rfl rfl ?_
  refine L.lenSl rfl Tryz.underlying47 rfl ?_
  refine L.gtI rfl rfl rfl ?_
  refine L.nil ?_
  refine T.thenN ?_
  refine T.cond rfl (fun h93 => ?_) (fun h93 => ?_)
  ·try simp only [dq] at h93
   refine T.seq (T.region ?_)
   refine L.assign rfl rfl ?_
   refine L.nil ?_
   refine T.thenN (T.ret ?_)
   refine T.thenR ?_
   exact T.ret1 rfl rfl ⟨by rw [ref_end hI (by omega), if_pos (by omega)], rfl, rfl⟩ qD qF
  ·try simp only [dq] at h93
   refine T.skip (T.thenN (T.seq (T.region ?_)))
   refine L.assign rfl rfl ?_
   refine L.nil ?_
   refine T.thenN (T.ret ?_)
   exact T.ret1 rfl rfl ⟨by rw [ref_end hI (by omega), if_neg (by omega)], rfl, rfl⟩ qD qF
end Cv
