/-
  The walks: Parse.
-/
import Derived.Test.YtcilkdnbbebjgaaGreatI06
import Derived.Test.YtcilkdnbbebjgaaGreatG06
import Derived.Test.YtcilkdnbbebjgaaGreatP06
import Derived.Test.YtcilkdnbbebjgaaGreatD06
import Derived.Test.YtcilkdnbbebjgaaGreatO05
import Derived.Test.YtcilkdnbbebjgaaGreatProg
import Derived.KernelRfl
set_option linter.unusedVariables false
set_option linter.unusedSimpArgs false
set_option linter.unusedSectionVars false
set_option maxRecDepth 10000
namespace Cv
open Go Go.Proofs

theorem cutm_spec {s : List UInt8} : Spec Tryz.prog 102 [S s, S [99, 114, 118, 1]] [] [] (fun v D' M' => v = .tuple #[S (cpF s), .bool (decide (s.take 4 = mark))] ∧ D' = [] ∧ M' = []) := cutp_spec (s := s) (m := [99, 114, 118, 1])
set_option maxHeartbeats 400000 in
theorem parse_spec {s : List UInt8} (hs : s.length ≤ 1000000000) : Spec Tryz.prog 66 [S s] [] [] (fun v D' M' => ∃ (a' : Option Addr) (len' cap' : Nat), v = .tuple #[.agg (iRow (parF s).1 a' len' cap').toArray, .int .i64 (parF s).2] ∧ D' = [rtr (parF s).1 (eRow (parF s).1 a' len' cap')] ∧ M' = []) := by
 refine Spec.intro (n := 44) Tryz.func66 rfl rfl (by decide) (Nat.le_of_ble_eq_true rfl) rfl (fun _ => qA) (fun _ => qA) ?_
 intro σ D M
 refine T.seq (T.region ?_)
 refine L.alloc rfl ze24 (fun b2 => ?_)
 refine L.assign rfl rfl ?_
 refine L.nil ?_
 refine T.thenN (T.seq (T.seq (T.region ?_)))
 refine L.move rfl rfl ?_
 refine L.lenStr rfl Tryz.underlying9 rfl ?_
 refine L.gtI rfl rfl rfl ?_
 refine L.nil ?_
 refine T.thenN ?_
 refine T.cond rfl (fun h12 => ?_) (fun h12 => ?_)
 ·try simp only [dq] at h12
  refine T.seq (T.region ?_)
  refine L.build rfl bu24 (BP.doneE (out := [Value.int .i64 0, S [], Value.slice none 0 0]) rfl) ?_
  refine L.storeA ag24 rfl rfl qL qO qU qW ?_
  refine L.assign rfl rfl ?_
  refine L.nil ?_
  refine T.thenN (T.ret ?_)
  refine T.thenR ?_
  have e0 : parF s = (.mk [] 0 [] [], 5) := by unfold parF; rw [if_pos (by omega)]
  rw [e0]
  refine T.fact0 (φ := rtr (.mk [] 0 [] []) (eRow (.mk [] 0 [] []) none 0 0)) (fun z => rt_leaf) ?_
  exact T.retAT rfl ag24 rfl qN rfl ⟨none, 0, 0, rfl, rfl, rfl⟩ qD qF
 ·try simp only [dq] at h12
  refine T.skip (T.thenN (T.seq (T.region ?_)))
  refine L.move rfl rfl ?_
  refine L.callF rfl (evs.cons rfl <| evs.cons rfl <| evs.nil) qD qS (cutm_spec (s := s)) (by rintro u D1 M1 ⟨rfl, rfl, rfl⟩; exact ⟨rfl, _, qA, qF⟩) ?_
  refine L.move rfl rfl ?_
  refine L.extract rfl rfl rfl ?_
  refine L.extract rfl rfl rfl ?_
  refine L.assign rfl rfl ?_
  refine L.assign rfl rfl ?_
  refine L.nil ?_
  refine T.thenN (T.seq (T.seq (T.region ?_)))
  refine L.move rfl rfl ?_
  refine L.notB rfl rfl ?_
  refine L.nil ?_
  refine T.thenN ?_
  refine T.cond rfl (fun h20 => ?_) (fun h20 => ?_)
  ·try simp only [dq] at h20
   refine T.seq (T.region ?_)
   refine L.build rfl bu24 (BP.doneE (out := [Value.int .i64 0, S [], Value.slice none 0 0]) rfl) ?_
   refine L.storeA ag24 rfl rfl qL qO qU qW ?_
   refine L.assign rfl rfl ?_
   refine L.nil ?_
   refine T.thenN (T.ret ?_)
   refine T.thenR ?_
   have e0 : parF s = (.mk [] 0 [] [], 2) := by unfold parF; rw [if_neg (by omega), if_pos (by simpa using h20)]
   rw [e0]
   refine T.fact0 (φ := rtr (.mk [] 0 [] []) (eRow (.mk [] 0 [] []) none 0 0)) (fun z => rt_leaf) ?_
   exact T.retAT rfl ag24 rfl qN rfl ⟨none, 0, 0, rfl, rfl, rfl⟩ qD qF
  ·try simp only [dq] at h20
   have hpr : s.take 4 = mark := by simpa using h20
   rw [cpF_yes hpr]
   refine T.skip (T.thenN (T.seq (T.region ?_)))
   refine L.move rfl rfl ?_
   refine L.call rfl (evs.cons rfl <| evs.nil) qD qS (bopen_spec (s := s.drop 4)) ?_
   rintro _ _ _ ⟨bb, rfl, rfl, rfl⟩
   refine L.norm qA qA ?_
   refine L.build rfl bu181 (BP.one rfl rfl rfl <| BP.one rfl rfl rfl <| BP.doneE (out := []) rfl) ?_
   refine L.box rfl rfl rfl (fun b25 => ?_)
   refine L.assign rfl rfl ?_
   refine L.nil ?_
   refine T.thenN (T.seq (T.region ?_))
   refine L.move rfl rfl ?_
   refine L.call rfl (evs.cons rfl <| evs.cons rfl <| evs.nil) qD qS (item_spec 9 1 b25 bb 64 ⟨s.drop 4, 0⟩ (by decide) (by decide) (by decide) (by decide)) ?_
   rintro _ _ _ ⟨fa, fl, fc, rfl, rfl, rfl⟩
   refine L.norm qA qA ?_
   refine L.alloc rfl ze24 (fun b7 => ?_)
   refine L.storeA ag24 rfl rfl qL qO qU qW ?_
   refine L.nil ?_
   refine T.thenN (T.seq (T.seq (T.region ?_)))
   refine L.move rfl rfl ?_
   refine L.nilCheck rfl rfl ?_
   first | refine L.field0 rfl fo181_0 rfl ?_ | refine L.field rfl fo181_0 rfl ?_
   refine L.load rfl sc100 rfl qC ?_
   refine L.call rfl (evs.cons rfl <| evs.nil) qD qS (bclose_spec (b := (itemF 9 1 64 ⟨s.drop 4, 0⟩).2.2)) ?_
   rintro _ _ _ ⟨rfl, rfl, rfl⟩
   refine L.norm qA qA ?_
   refine L.assign rfl rfl ?_
   refine L.nil ?_
   refine T.thenN (T.seq (T.region ?_))
   refine L.move rfl rfl ?_
   refine L.neI rfl rfl rfl ?_
   refine L.nil ?_
   refine T.thenN ?_
   refine T.cond rfl (fun h34 => ?_) (fun h34 => ?_)
   ·try simp only [dq] at h34
    refine T.seq (T.region ?_)
    refine L.build rfl bu24 (BP.doneE (out := [Value.int .i64 0, S [], Value.slice none 0 0]) rfl) ?_
    refine L.move rfl rfl ?_
    refine L.storeA ag24 rfl rfl qL qO qU qW ?_
    refine L.assign rfl rfl ?_
    refine L.nil ?_
    refine T.thenN (T.ret ?_)
    refine T.thenR ?_
    have e0 : parF s = (.mk [] 0 [] [], closeE (itemF 9 1 64 ⟨s.drop 4, 0⟩).2.2) := by unfold parF; rw [if_neg (by omega), if_neg (fun e => e hpr), if_pos h34]
    rw [e0]
    refine T.fact0 (φ := rtr (.mk [] 0 [] []) (eRow (.mk [] 0 [] []) none 0 0)) (fun z => rt_leaf) ?_
    exact T.retAT rfl ag24 rfl qN rfl ⟨none, 0, 0, rfl, rfl, rfl⟩ qD qF
   ·try simp only [dq] at h34
    have hcl : closeE (itemF 9 1 64 ⟨s.drop 4, 0⟩).2.2 = 0 := Decidable.not_not.1 h34
    have hio := item_ok 9 1 64 ⟨s.drop 4, 0⟩ (by decide) (by decide)
    have hcn := hio.cnt
    have hlw := (hio.low (by decide)).1
    refine T.skip (T.thenN (T.seq (T.seq (T.region ?_))))
    refine L.loadA rfl ag24 rfl qN ?_
    refine L.callF rfl (evs.cons rfl <| evs.nil) qD qS (Chk_spec (x := (itemF 9 1 64 ⟨s.drop 4, 0⟩).1) _ _ _ (by omega) hio.sm.1 hio.sm.2) (by rintro u D1 M1 ⟨rfl, rfl, rfl⟩; exact ⟨rfl, _, qA, qF⟩) ?_
    refine L.assign rfl rfl ?_
    refine L.nil ?_
    refine T.thenN (T.seq (T.region ?_))
    refine L.move rfl rfl ?_
    refine L.neI rfl rfl rfl ?_
    refine L.nil ?_
    refine T.thenN ?_
    refine T.cond rfl (fun h40 => ?_) (fun h40 => ?_)
    ·try simp only [dq] at h40
     refine T.seq (T.region ?_)
     refine L.build rfl bu24 (BP.doneE (out := [Value.int .i64 0, S [], Value.slice none 0 0]) rfl) ?_
     refine L.move rfl rfl ?_
     refine L.storeA ag24 rfl rfl qL qO qU qW ?_
     refine L.assign rfl rfl ?_
     refine L.nil ?_
     refine T.thenN (T.ret ?_)
     refine T.thenR ?_
     have e0 : parF s = (.mk [] 0 [] [], chkE (itemF 9 1 64 ⟨s.drop 4, 0⟩).1) := by unfold parF; rw [if_neg (by omega), if_neg (fun e => e hpr), if_neg h34, if_pos h40]
     rw [e0]
     refine T.fact0 (φ := rtr (.mk [] 0 [] []) (eRow (.mk [] 0 [] []) none 0 0)) (fun z => rt_leaf) ?_
     exact T.retAT rfl ag24 rfl qN rfl ⟨none, 0, 0, rfl, rfl, rfl⟩ qD qF
    ·try simp only [dq] at h40
     refine T.skip (T.thenN (T.seq (T.region ?_)))
     refine L.loadA rfl ag24 rfl qN ?_
     refine L.storeA ag24 rfl rfl qL qO qU qW ?_
     refine L.assign rfl rfl ?_
     refine L.nil ?_
     refine T.thenN (T.ret ?_)
     have e0 : parF s = ((itemF 9 1 64 ⟨s.drop 4, 0⟩).1, 0) := by unfold parF; rw [if_neg (by omega), if_neg (fun e => e hpr), if_neg h34, if_neg h40]
     rw [e0]
     exact T.retAT rfl ag24 rfl qN rfl ⟨_, _, _, rfl, rfl, rfl⟩ qD qF
end Cv
