/-
  The walks: bytes read.
-/
import Derived.Test.YtcilkdnbbebjgaaGreatP06
import Derived.Test.YtcilkdnbbebjgaaGreatCvLe
import Derived.Test.YtcilkdnbbebjgaaGreatD05
import Derived.Test.YtcilkdnbbebjgaaGreatProg
import Derived.KernelRfl
set_option linter.unusedVariables false
set_option linter.unusedSimpArgs false
set_option linter.unusedSectionVars false
set_option maxRecDepth 10000
namespace Cv
open Go Go.Proofs

set_option maxHeartbeats 400000 in
theorem bopen_spec {s : List UInt8}  : Spec Tryz.prog 48 [S s] [] [] (fun v D' M' => ∃ (bb : Nat), v = .pointer (some ⟨bb, 0, none⟩) ∧ D' = [] ∧ M' = [cl bb 165 (blR ⟨s, 0⟩)]) := by
 refine Spec.intro (n := 6) Tryz.func48 rfl rfl (by decide) (Nat.le_of_ble_eq_true rfl) rfl (fun _ => qA) (fun _ => qA) ?_
 intro σ D M
 refine T.seq (T.region ?_)
 refine L.assign rfl rfl ?_
 refine L.nil ?_
 refine T.thenN (T.seq (T.region ?_))
 refine L.move rfl rfl ?_
 refine L.build rfl bu165 (BP.one rfl rfl rfl <| BP.doneE (out := [Value.int .i64 0]) rfl) ?_
 refine L.box rfl rfl rfl (fun b5 => ?_)
 refine L.assign rfl rfl ?_
 refine L.nil ?_
 refine T.thenN (T.ret ?_)
 exact T.ret1 rfl rfl ⟨_, rfl, rfl, rfl⟩ qD qF
set_option maxHeartbeats 400000 in
theorem berr_spec {bb : Nat} {b : Bl}  : Spec Tryz.prog 134 [.pointer (some ⟨bb, 0, none⟩)] [] [cl bb 165 (blR (b))] (fun v D' M' => v = .int .i64 b.err ∧ D' = [] ∧ M' = [cl bb 165 (blR (b))]) := by
 refine Spec.intro (n := 7) Tryz.func134 rfl rfl (by decide) (Nat.le_of_ble_eq_true rfl) rfl (fun _ => qA) (fun _ => qA) ?_
 intro σ D M
 refine T.seq (T.region ?_)
 refine L.assign rfl rfl ?_
 refine L.nil ?_
 refine T.thenN (T.seq (T.region ?_))
 refine L.move rfl rfl ?_
 refine L.nilCheck rfl rfl ?_
 first | refine L.field0 rfl fo165_1 rfl ?_ | refine L.field rfl fo165_1 rfl ?_
 refine L.load rfl sc37 rfl qC ?_
 refine L.assign rfl rfl ?_
 refine L.nil ?_
 refine T.thenN (T.ret ?_)
 exact T.ret1 rfl rfl ⟨rfl, rfl, rfl⟩ qD qF
set_option maxHeartbeats 400000 in
theorem bfail_spec {bb : Nat} {b : Bl} {e : Int}  : Spec Tryz.prog 95 [.pointer (some ⟨bb, 0, none⟩), .int .i64 e] [] [cl bb 165 (blR (b))] (fun v D' M' => v = .tuple #[] ∧ D' = [] ∧ M' = [cl bb 165 (blR (failB b e))]) := by
 refine Spec.intro (n := 16) Tryz.func95 rfl rfl (by decide) (Nat.le_of_ble_eq_true rfl) rfl (fun _ => qA) (fun _ => qA) ?_
 intro σ D M
 refine T.seq (T.region ?_)
 refine L.move rfl rfl ?_
 refine L.nilCheck rfl rfl ?_
 first | refine L.field0 rfl fo165_1 rfl ?_ | refine L.field rfl fo165_1 rfl ?_
 refine L.load rfl sc37 rfl qC ?_
 refine L.eqI rfl rfl rfl ?_
 refine L.nil ?_
 refine T.thenN ?_
 refine T.cond rfl (fun h8 => ?_) (fun h8 => ?_)
 ·try simp only [dq] at h8
  refine T.region ?_
  refine L.move rfl rfl ?_
  refine L.move rfl rfl ?_
  refine L.move rfl rfl ?_
  refine L.nilCheck rfl rfl ?_
  first | refine L.field0 rfl fo165_1 rfl ?_ | refine L.field rfl fo165_1 rfl ?_
  refine L.store sc37 rfl rfl rfl qU qE ?_
  refine L.nilCheck rfl rfl ?_
  first | refine L.field0 rfl fo165_0 rfl ?_ | refine L.field rfl fo165_0 rfl ?_
  refine L.store sc9 rfl rfl rfl qU qE ?_
  refine L.nil ?_
  refine T.clEq bb (blR (failB b e)) qP (by rw [failB, if_pos h8]; rfl) ?_
  exact T.retN (by simp) rfl ⟨rfl, rfl, rfl⟩ qD qF
 ·try simp only [dq] at h8
  refine T.skip ?_
  refine T.clEq bb (blR (failB b e)) qP (by rw [failB, if_neg h8]) ?_
  exact T.retN (by simp) rfl ⟨rfl, rfl, rfl⟩ qD qF
set_option maxHeartbeats 400000 in
theorem bclose_spec {bb : Nat} {b : Bl}  : Spec Tryz.prog 52 [.pointer (some ⟨bb, 0, none⟩)] [] [cl bb 165 (blR (b))] (fun v D' M' => v = .int .i64 (closeE b) ∧ D' = [] ∧ M' = []) := by
 refine Spec.intro (n := 14) Tryz.func52 rfl rfl (by decide) (Nat.le_of_ble_eq_true rfl) rfl (fun _ => qA) (fun _ => qA) ?_
 intro σ D M
 refine T.seq (T.region ?_)
 refine L.assign rfl rfl ?_
 refine L.nil ?_
 refine T.thenN (T.seq (T.seq (T.region ?_)))
 refine L.move rfl rfl ?_
 refine L.nilCheck rfl rfl ?_
 first | refine L.field0 rfl fo165_0 rfl ?_ | refine L.field rfl fo165_0 rfl ?_
 refine L.load rfl sc9 rfl qC ?_
 refine L.neS rfl rfl rfl ?_
 refine L.nil ?_
 refine T.thenN ?_
 refine T.cutC (fun K' D' M' => ∃ (b1 : Bl), (b1 = if b.left ≠ [] then failB b 2 else b) ∧ K' = [] ∧ D' = [] ∧ M' = [cl bb 165 (blR (b1))]) (M0 := [cl bb 165 (blR (b))]) (.cons (t := 0) rfl <| SubK.nil _) qS ?_ ?_
 ·skip
  refine T.cond rfl (fun h7 => ?_) (fun h7 => ?_)
  ·try simp only [dq] at h7
   refine T.region ?_
   refine L.move rfl rfl ?_
   refine L.call rfl (evs.cons rfl <| evs.cons rfl <| evs.nil) qD qS (bfail_spec (b := b) (e := 2)) ?_
   rintro _ _ _ ⟨rfl, rfl, rfl⟩
   refine L.norm qA qA ?_
   refine L.nil ?_
   refine T.thenN ?_
   exact T.toJoin ⟨_, (by rw [if_pos (by simpa using h7)]), rfl, rfl, rfl⟩ (SubK.nil _) (.cons (t := 0) rfl <| SubK.nil _) qD qD qF
  ·try simp only [dq] at h7
   refine T.skip (T.thenN ?_)
   exact T.toJoin ⟨_, (by rw [if_neg (by simpa using h7)]), rfl, rfl, rfl⟩ (SubK.nil _) (.cons (t := 0) rfl <| SubK.nil _) qD qD qF
 rintro _ _ _ ⟨b1, hb1, rfl, rfl, rfl⟩
 refine T.norm3 qA qA qA ?_
 refine T.thenN (T.seq (T.region ?_))
 refine L.move rfl rfl ?_
 refine L.nilCheck rfl rfl ?_
 first | refine L.field0 rfl fo165_1 rfl ?_ | refine L.field rfl fo165_1 rfl ?_
 refine L.load rfl sc37 rfl qC ?_
 refine L.assign rfl rfl ?_
 refine L.nil ?_
 refine T.thenN (T.ret ?_)
 exact T.ret1 rfl rfl ⟨congrArg (Value.int .i64) (close_eq hb1), rfl, rfl⟩ qD qF
set_option maxHeartbeats 400000 in
theorem bbytes_spec {bb : Nat} {b : Bl} {n : Nat} (hn : n ≤ 1000000000) : Spec Tryz.prog 93 [.pointer (some ⟨bb, 0, none⟩), .int .i64 (n : Int)] [] [cl bb 165 (blR (b))] (fun v D' M' => v = S (bytB b n).1 ∧ D' = [] ∧ M' = [cl bb 165 (blR ((bytB b n).2))]) := by
 refine Spec.intro (n := 40) Tryz.func93 rfl rfl (by decide) (Nat.le_of_ble_eq_true rfl) rfl (fun _ => qA) (fun _ => qA) ?_
 intro σ D M
 refine T.seq (T.region ?_)
 refine L.assign rfl rfl ?_
 refine L.nil ?_
 refine T.thenN (T.seq (T.seq (T.region ?_)))
 refine L.move rfl rfl ?_
 refine L.ltI rfl rfl rfl ?_
 refine L.move rfl rfl ?_
 refine L.known (t := 8) rfl (show _ = Value.bool false from congrArg Value.bool (decide_eq_false (by omega))) ?_
 refine L.guardT (dj := 8) rfl rfl rfl ?_
 refine L.move rfl rfl ?_
 refine L.guardT (dj := 8) rfl rfl rfl ?_
 refine L.move rfl rfl ?_
 refine L.guardT (dj := 8) rfl rfl rfl ?_
 refine L.nilCheck rfl rfl ?_
 refine L.guardT (dj := 8) rfl rfl rfl ?_
 first | refine L.field0 rfl fo165_0 rfl ?_ | refine L.field rfl fo165_0 rfl ?_
 refine L.guardT (dj := 8) rfl rfl rfl ?_
 refine L.load rfl sc9 rfl qC ?_
 refine L.guardT (dj := 8) rfl rfl rfl ?_
 refine L.lenStr rfl Tryz.underlying9 rfl ?_
 refine L.guardT (dj := 8) rfl rfl rfl ?_
 refine L.gtI rfl rfl rfl ?_
 refine L.pickF rfl rfl rfl ?_
 refine L.nil ?_
 refine T.thenN ?_
 refine T.cutC (fun K' D' M' => ∃ (b1 : Bl), (b1 = if (b.left.length : Int) < n then failB b 1 else b) ∧ K' = [] ∧ D' = [] ∧ M' = [cl bb 165 (blR (b1))]) (M0 := [cl bb 165 (blR (b))]) (.cons (t := 0) rfl <| .cons (t := 1) rfl <| SubK.nil _) qS ?_ ?_
 ·skip
  refine T.cond rfl (fun h16 => ?_) (fun h16 => ?_)
  ·try simp only [dq] at h16
   refine T.region ?_
   refine L.move rfl rfl ?_
   refine L.call rfl (evs.cons rfl <| evs.cons rfl <| evs.nil) qD qS (bfail_spec (b := b) (e := 1)) ?_
   rintro _ _ _ ⟨rfl, rfl, rfl⟩
   refine L.norm qA qA ?_
   refine L.nil ?_
   refine T.thenN ?_
   exact T.toJoin ⟨_, (by rw [if_pos (by simpa using h16)]), rfl, rfl, rfl⟩ (SubK.nil _) (.cons (t := 0) rfl <| .cons (t := 1) rfl <| SubK.nil _) qD qD qF
  ·try simp only [dq] at h16
   refine T.skip (T.thenN ?_)
   exact T.toJoin ⟨_, (by rw [if_neg (by simpa using h16)]), rfl, rfl, rfl⟩ (SubK.nil _) (.cons (t := 0) rfl <| .cons (t := 1) rfl <| SubK.nil _) qD qD qF
 rintro _ _ _ ⟨b1, hb1, rfl, rfl, rfl⟩
 refine T.norm3 qA qA qA ?_
 refine T.thenN (T.seq (T.seq (T.region ?_)))
 refine L.move rfl rfl ?_
 refine L.nilCheck rfl rfl ?_
 first | refine L.field0 rfl fo165_1 rfl ?_ | refine L.field rfl fo165_1 rfl ?_
 refine L.load rfl sc37 rfl qC ?_
 refine L.neI rfl rfl rfl ?_
 refine L.nil ?_
 refine T.thenN ?_
 refine T.cond rfl (fun h23 => ?_) (fun h23 => ?_)
 ·try simp only [dq] at h23
  have hbe := byt_1 hb1 h23
  refine T.seq (T.region ?_)
  refine L.assign rfl rfl ?_
  refine L.nil ?_
  refine T.thenN (T.ret ?_)
  refine T.thenR ?_
  refine T.clEq bb (blR ((bytB b n).2)) qP (by rw [hbe]) ?_
  exact T.ret1 rfl rfl ⟨by rw [hbe]; rfl, rfl, rfl⟩ qD qF
 ·try simp only [dq] at h23
  obtain ⟨rfl, hnl, hbe⟩ := byt_2 hb1 (by simpa using h23)
  refine T.skip (T.thenN (T.seq (T.region ?_)))
  refine L.move rfl rfl ?_
  refine L.nilCheck rfl rfl ?_
  first | refine L.field0 rfl fo165_0 rfl ?_ | refine L.field rfl fo165_0 rfl ?_
  refine L.load rfl sc9 rfl qC ?_
  refine L.move rfl rfl ?_
  refine L.sliceS (a := 0) (b := n) rfl Tryz.underlying9 rfl rfl ⟨_, (by first | rfl | (congr 2; omega))⟩ qI qI ?_
  refine L.assign rfl rfl ?_
  refine L.nil ?_
  refine T.thenN (T.seq (T.region ?_))
  refine L.move rfl rfl ?_
  refine L.move rfl rfl ?_
  refine L.nilCheck rfl rfl ?_
  first | refine L.field0 rfl fo165_0 rfl ?_ | refine L.field rfl fo165_0 rfl ?_
  refine L.load rfl sc9 rfl qC ?_
  refine L.move rfl rfl ?_
  refine L.sliceS (a := n) (b := _) rfl Tryz.underlying9 rfl ⟨_, (by first | rfl | (congr 2; omega))⟩ rfl qI qI ?_
  refine L.nilCheck rfl rfl ?_
  first | refine L.field0 rfl fo165_0 rfl ?_ | refine L.field rfl fo165_0 rfl ?_
  refine L.store sc9 rfl rfl rfl qU qE ?_
  refine L.nil ?_
  refine T.thenN (T.seq (T.region ?_))
  refine L.move rfl rfl ?_
  refine L.assign rfl rfl ?_
  refine L.nil ?_
  refine T.thenN (T.ret ?_)
  refine T.clEq bb (blR ((bytB b1 n).2)) qP (by rw [hbe]; simp) ?_
  exact T.ret1 rfl rfl ⟨by rw [hbe]; simp, rfl, rfl⟩ qD qF
set_option maxHeartbeats 1000000 in
theorem bnumr_spec {bb : Nat} {b : Bl}  : Spec Tryz.prog 94 [.pointer (some ⟨bb, 0, none⟩)] [] [cl bb 165 (blR (b))] (fun v D' M' => v = .int .u64 ((numR b).1 : Int) ∧ D' = [] ∧ M' = [cl bb 165 (blR ((numR b).2))]) := by
 refine Spec.intro (n := 55) Tryz.func94 rfl rfl (by decide) (Nat.le_of_ble_eq_true rfl) rfl (fun _ => qA) (fun _ => qA) ?_
 intro σ D M
 refine T.seq (T.region ?_)
 refine L.assign rfl rfl ?_
 refine L.nil ?_
 refine T.thenN (T.seq (T.region ?_))
 refine L.move rfl rfl ?_
 refine L.call rfl (evs.cons rfl <| evs.cons rfl <| evs.nil) qD qS (bbytes_spec (b := b) (n := 1) (by decide)) ?_
 rintro _ _ _ ⟨rfl, rfl, rfl⟩
 refine L.norm qA qA ?_
 refine L.assign rfl rfl ?_
 refine L.nil ?_
 refine T.thenN (T.seq (T.seq (T.region ?_)))
 refine L.move rfl rfl ?_
 refine L.nilCheck rfl rfl ?_
 first | refine L.field0 rfl fo165_1 rfl ?_ | refine L.field rfl fo165_1 rfl ?_
 refine L.load rfl sc37 rfl qC ?_
 refine L.neI rfl rfl rfl ?_
 refine L.nil ?_
 refine T.thenN ?_
 refine T.cond rfl (fun h15 => ?_) (fun h15 => ?_)
 ·try simp only [dq] at h15
  refine T.seq (T.region ?_)
  refine L.assign rfl rfl ?_
  refine L.nil ?_
  refine T.thenN (T.ret ?_)
  refine T.thenR ?_
  refine T.clEq bb (blR ((numR b).2)) qP (by rw [num_1 h15]; rfl) ?_
  exact T.ret1 rfl rfl ⟨by rw [num_1 h15]; rfl, rfl, rfl⟩ qD qF
 ·try simp only [dq] at h15
  have hpe : (bytB b 1).2.err = 0 := Decidable.not_not.1 h15
  have hpl := (byt_len (b := b) (n := 1) (by decide) hpe).1
  obtain ⟨c, hc⟩ : ∃ c, c = (bytB b 1).1.getD 0 0 := ⟨_, rfl⟩
  have hc0 : (bytB b 1).1[0]? = some c := by rw [hc, List.getD_eq_getElem?_getD, List.getElem?_eq_getElem (by omega)]; rfl
  have hcl := c.toNat_lt
  obtain ⟨p, hp⟩ : ∃ p, p = (bytB b 1).2 := ⟨_, rfl⟩
  refine T.clEq bb (blR p) qP (by rw [hp]; rfl) ?_
  rw [show ((1 : Nat) : Int) = 1 from rfl]
  refine T.skip (T.thenN (T.seq (T.region ?_)))
  refine L.move rfl rfl ?_
  refine L.indexS (i := 0) rfl Tryz.underlying9 rfl rfl (by first | rfl | omega | (simp; done)) hc0 ?_
  refine L.convN rfl Tryz.underlying5 Tryz.underlying3 rfl qI ?_
  refine L.assign rfl rfl ?_
  refine L.nil ?_
  refine T.thenN (T.seq (T.seq (T.region ?_)))
  refine L.move rfl rfl ?_
  refine L.gtI rfl rfl rfl ?_
  refine L.nil ?_
  refine T.thenN ?_
  refine T.cutC (fun K' D' M' => ∃ (b2 : Bl), (b2 = if 8 < c.toNat then failB p 2 else p) ∧ K' = [] ∧ D' = [] ∧ M' = [cl bb 165 (blR (b2))]) (M0 := [cl bb 165 (blR (p))]) (.cons (t := 0) rfl <| .cons (t := 4) rfl <| SubK.nil _) qS ?_ ?_
  ·skip
   refine T.cond rfl (fun h20 => ?_) (fun h20 => ?_)
   ·try simp only [dq] at h20
    refine T.region ?_
    refine L.move rfl rfl ?_
    refine L.call rfl (evs.cons rfl <| evs.cons rfl <| evs.nil) qD qS (bfail_spec (b := p) (e := 2)) ?_
    rintro _ _ _ ⟨rfl, rfl, rfl⟩
    refine L.norm qA qA ?_
    refine L.nil ?_
    refine T.thenN ?_
    exact T.toJoin ⟨_, (by rw [if_pos (by omega)]), rfl, rfl, rfl⟩ (SubK.nil _) (.cons (t := 0) rfl <| .cons (t := 4) rfl <| SubK.nil _) qD qD qF
   ·try simp only [dq] at h20
    refine T.skip (T.thenN ?_)
    exact T.toJoin ⟨_, (by rw [if_neg (by omega)]), rfl, rfl, rfl⟩ (SubK.nil _) (.cons (t := 0) rfl <| .cons (t := 4) rfl <| SubK.nil _) qD qD qF
  rintro _ _ _ ⟨b2, hb2, rfl, rfl, rfl⟩
  refine T.norm3 qA qA qA ?_
  refine T.thenN (T.seq (T.region ?_))
  refine L.move rfl rfl ?_
  refine L.move rfl rfl ?_
  refine L.minI rfl rfl rfl ?_
  rw [show min (c.toNat : Int) 8 = ((min c.toNat 8 : Nat) : Int) by omega]
  refine L.call rfl (evs.cons rfl <| evs.cons rfl <| evs.nil) qD qS (bbytes_spec (b := b2) (n := min c.toNat 8) (by omega)) ?_
  rintro _ _ _ ⟨rfl, rfl, rfl⟩
  refine L.norm qA qA ?_
  refine L.assign rfl rfl ?_
  refine L.nil ?_
  have hql := byt_lenN (b := b2) (n := min c.toNat 8)
  obtain ⟨q, hq⟩ : ∃ q, q = (bytB b2 (min c.toNat 8 : Nat)).1 := ⟨_, rfl⟩
  obtain ⟨q2, hq2⟩ : ∃ q, q = (bytB b2 (min c.toNat 8 : Nat)).2 := ⟨_, rfl⟩
  rw [← hq, ← hq2]
  rw [← hq] at hql
  refine T.thenN (T.seq (T.seq ?_))
  refine T.cutC (fun K' D' M' => ∃ (w : Bool), (w = true ↔ (q ≠ [] ∧ q.getD 0 0 = 0)) ∧ K' = [(33, .bool w)] ∧ D' = [] ∧ M' = []) (M0 := []) (.cons (t := 0) rfl <| .cons (t := 5) rfl <| SubK.nil _) qS ?_ ?_
  ·skip
   rcases List.eq_nil_or_concat q with hqn | ⟨qt, qc, hqn⟩
   ·skip
    refine T.region ?_
    refine L.move rfl rfl ?_
    refine L.neS rfl rfl rfl ?_
    refine L.move rfl rfl ?_
    refine L.known (t := 29) rfl (show _ = Value.bool false from congrArg Value.bool (by rw [hqn]; rfl)) ?_
    refine L.guardF (dj := 29) (c := false) rfl rfl rfl rfl rfl (by decide) ?_
    refine L.guardF (dj := 29) (c := false) rfl rfl rfl rfl rfl (by decide) ?_
    refine L.guardF (dj := 29) (c := false) rfl rfl rfl rfl rfl (by decide) ?_
    refine L.pickF rfl rfl rfl ?_
    refine L.nil ?_
    refine T.thenN ?_
    exact T.toJoin ⟨_, ⟨(fun h => by cases h), (fun h => absurd hqn h.1)⟩, rfl, rfl, rfl⟩ (.cons (t := 33) rfl <| SubK.nil _) (.cons (t := 0) rfl <| .cons (t := 5) rfl <| SubK.nil _) qD qD qF
   ·skip
    have hq0 : q[0]? = some (q.getD 0 0) := gd_first (by rw [hqn]; simp)
    refine T.region ?_
    refine L.move rfl rfl ?_
    refine L.neS rfl rfl rfl ?_
    refine L.move rfl rfl ?_
    refine L.known (t := 29) rfl (show _ = Value.bool true from congrArg Value.bool (by rw [hqn]; simp)) ?_
    refine L.guardT (dj := 29) rfl rfl rfl ?_
    refine L.move rfl rfl ?_
    refine L.guardT (dj := 29) rfl rfl rfl ?_
    refine L.indexS (i := 0) rfl Tryz.underlying9 rfl rfl (by first | rfl | omega | (simp; done)) hq0 ?_
    refine L.guardT (dj := 29) rfl rfl rfl ?_
    refine L.eqI rfl rfl rfl ?_
    refine L.pickT rfl rfl rfl ?_
    refine L.nil ?_
    refine T.thenN ?_
    exact T.toJoin ⟨_, (zero_arm (by rw [hqn]; simp) rfl), rfl, rfl, rfl⟩ (.cons (t := 33) rfl <| SubK.nil _) (.cons (t := 0) rfl <| .cons (t := 5) rfl <| SubK.nil _) qD qD qF
  rintro _ _ _ ⟨w, hw, rfl, rfl, rfl⟩
  refine T.norm3 qA qA qA ?_
  refine T.thenN ?_
  refine T.cutC (fun K' D' M' => ∃ (b3 : Bl), (b3 = if q ≠ [] ∧ q.getD 0 0 = 0 then failB q2 2 else q2) ∧ K' = [] ∧ D' = [] ∧ M' = [cl bb 165 (blR (b3))]) (M0 := [cl bb 165 (blR (q2))]) (.cons (t := 0) rfl <| .cons (t := 5) rfl <| SubK.nil _) qS ?_ ?_
  ·skip
   refine T.cond rfl (fun h33 => ?_) (fun h33 => ?_)
   ·try simp only [dq] at h33
    refine T.region ?_
    refine L.move rfl rfl ?_
    refine L.call rfl (evs.cons rfl <| evs.cons rfl <| evs.nil) qD qS (bfail_spec (b := q2) (e := 2)) ?_
    rintro _ _ _ ⟨rfl, rfl, rfl⟩
    refine L.norm qA qA ?_
    refine L.nil ?_
    refine T.thenN ?_
    exact T.toJoin ⟨_, (by rw [if_pos (hw.1 h33)]), rfl, rfl, rfl⟩ (SubK.nil _) (.cons (t := 0) rfl <| .cons (t := 5) rfl <| SubK.nil _) qD qD qF
   ·try simp only [dq] at h33
    refine T.skip (T.thenN ?_)
    exact T.toJoin ⟨_, (by rw [if_neg (fun e => by rw [hw.2 e] at h33; cases h33)]), rfl, rfl, rfl⟩ (SubK.nil _) (.cons (t := 0) rfl <| .cons (t := 5) rfl <| SubK.nil _) qD qD qF
  rintro _ _ _ ⟨b3, hb3, rfl, rfl, rfl⟩
  refine T.norm3 qA qA qA ?_
  have hall := num_all (b := b) (b2 := b2) (b3 := b3) hpe (by rw [← hc, ← hp]; exact hb2) (by rw [← hc, ← hq, ← hq2]; exact hb3)
  rw [← hc, ← hq] at hall
  refine T.thenN (T.seq (T.region ?_))
  refine L.assign rfl rfl ?_
  refine L.nil ?_
  refine T.thenN (T.seq (T.seq (T.region ?_)))
  refine L.move rfl rfl ?_
  refine L.strBytes (l := q) rfl Tryz.underlying9 Tryz.underlying97 Tryz.underlying5 rfl (fun bb2 bc2 => ?_)
  refine L.lenSl rfl Tryz.underlying97 rfl ?_
  refine L.move rfl rfl ?_
  refine L.nil ?_
  refine T.thenN (T.block ?_)
  refine T.loop (fun K' D' M' μ => ∃ (i v : Nat), (i ≤ q.length ∧ v = beV (q.take i)) ∧ K' = [(39, .int .i64 i), (6, .int .u64 (v : Int))] ∧ D' = [] ∧ M' = [] ∧ μ = q.length - i) (.cons (t := 0) rfl <| .cons (t := 37) rfl <| .cons (t := 38) rfl <| SubK.nil _) (⟨0, 0, ⟨by omega, rfl⟩, rfl, rfl, rfl, rfl⟩) (.cons (t := 39) rfl <| .cons (t := 6) rfl <| SubK.nil _) qD qS ?_
  rintro K1 D1 M1 m1 ⟨i, v, ⟨hi, hv⟩, rfl, rfl, rfl, rfl⟩
  refine T.norm3 qA qA qA ?_
  refine T.seq (T.region ?_)
  refine L.ltI rfl rfl rfl ?_
  refine L.nil ?_
  refine T.thenN (T.seq ?_)
  refine T.cond rfl (fun h40 => ?_) (fun h40 => ?_)
  ·try simp only [dq] at h40
   refine T.skip (T.thenN (T.seq (T.block (T.seq (T.region ?_)))))
   have hqi : q[i]? = some (gd q i) := gd_get (by omega)
   have hdl := (gd q i).toNat_lt
   have hv56 : v < 72057594037927936 := by rw [hv]; exact beV_8 (k := i) (by rw [List.length_take]; omega) (by omega)
   refine L.idx (i := i) rfl Tryz.underlying97 sz5 rfl rfl qM (by first | rfl | omega | (simp; done)) qG (fun b41 o41 => ?_)
   refine L.load rfl sc5 rfl qC ?_
   refine L.assign rfl rfl ?_
   refine L.nil ?_
   refine T.thenN (T.region ?_)
   refine L.move rfl rfl ?_
   refine L.shlI rfl rfl rfl qI ?_
   rw [shl8 hv56]
   refine L.move rfl rfl ?_
   refine L.convU rfl Tryz.underlying5 Tryz.underlying117 rfl qI ?_
   rw [show (((gd q i).toNat : Int)) = (((gd q i).toNat : Nat) : Int) from rfl]
   refine L.orI rfl rfl rfl ?_
   rw [bitsOr_u64 (by omega) (by omega), or_byte _ _ hdl]
   refine L.assign rfl rfl ?_
   refine L.nil ?_
   refine T.blkN (T.thenN (T.region ?_))
   refine L.addN rfl rfl rfl (by omega) ?_
   refine L.move rfl rfl ?_
   refine L.nil ?_
   refine T.thenN ?_
   exact T.back ⟨i + 1, _, ⟨by omega, by rw [hv, ← take_snoc hqi, beV_snoc]⟩, rfl, rfl, rfl, rfl⟩ qI (.cons (t := 39) rfl <| .cons (t := 6) rfl <| SubK.nil _) (.cons (t := 0) rfl <| .cons (t := 37) rfl <| .cons (t := 38) rfl <| SubK.nil _) qD qD qF
  ·try simp only [dq] at h40
   refine T.exit (T.thenX (T.thenX (T.blkX (T.thenN (T.seq (T.seq (T.region ?_)))))))
   refine L.move rfl rfl ?_
   refine L.nilCheck rfl rfl ?_
   first | refine L.field0 rfl fo165_1 rfl ?_ | refine L.field rfl fo165_1 rfl ?_
   refine L.load rfl sc37 rfl qC ?_
   refine L.neI rfl rfl rfl ?_
   refine L.nil ?_
   refine T.thenN ?_
   refine T.cond rfl (fun h53 => ?_) (fun h53 => ?_)
   ·try simp only [dq] at h53
    refine T.seq (T.region ?_)
    refine L.assign rfl rfl ?_
    refine L.nil ?_
    refine T.thenN (T.ret ?_)
    refine T.thenR ?_
    refine T.clEq bb (blR ((numR b).2)) qP (by rw [hall, if_pos h53]) ?_
    exact T.ret1 rfl rfl ⟨by rw [hall, if_pos h53]; rfl, rfl, rfl⟩ qD qF
   ·try simp only [dq] at h53
    refine T.skip (T.thenN (T.seq (T.region ?_)))
    refine L.move rfl rfl ?_
    refine L.assign rfl rfl ?_
    refine L.nil ?_
    refine T.thenN (T.ret ?_)
    refine T.clEq bb (blR ((numR b).2)) qP (by rw [hall, if_neg h53]) ?_
    exact T.ret1 rfl rfl ⟨by rw [hall, if_neg h53, hv, List.take_of_length_le (by omega)], rfl, rfl⟩ qD qF
set_option maxHeartbeats 400000 in
theorem bint_spec {bb : Nat} {b : Bl} {top : Nat} (ht : top ≤ 1000000000) : Spec Tryz.prog 50 [.pointer (some ⟨bb, 0, none⟩), .int .i64 (top : Int)] [] [cl bb 165 (blR (b))] (fun v D' M' => v = .int .i64 ((intR b top).1 : Int) ∧ D' = [] ∧ M' = [cl bb 165 (blR ((intR b top).2))]) := by
 refine Spec.intro (n := 29) Tryz.func50 rfl rfl (by decide) (Nat.le_of_ble_eq_true rfl) rfl (fun _ => qA) (fun _ => qA) ?_
 intro σ D M
 have hn64 := num_64 b
 refine T.seq (T.region ?_)
 refine L.assign rfl rfl ?_
 refine L.nil ?_
 refine T.thenN (T.seq (T.region ?_))
 refine L.move rfl rfl ?_
 refine L.call rfl (evs.cons rfl <| evs.nil) qD qS (bnumr_spec (b := b)) ?_
 rintro _ _ _ ⟨rfl, rfl, rfl⟩
 refine L.norm qA qA ?_
 refine L.assign rfl rfl ?_
 refine L.nil ?_
 refine T.thenN (T.seq (T.seq ?_))
 refine T.cutC (fun K' D' M' => ∃ (w : Bool), (w = true ↔ ((numR b).2.err = 0 ∧ top < (numR b).1)) ∧ K' = [(19, .bool w)] ∧ D' = [] ∧ M' = []) (M0 := []) (.cons (t := 0) rfl <| .cons (t := 5) rfl <| SubK.nil _) qS ?_ ?_
 ·skip
  by_cases hne : (numR b).2.err = 0
  ·skip
   refine T.region ?_
   refine L.move rfl rfl ?_
   refine L.nilCheck rfl rfl ?_
   first | refine L.field0 rfl fo165_1 rfl ?_ | refine L.field rfl fo165_1 rfl ?_
   refine L.load rfl sc37 rfl qC ?_
   refine L.eqI rfl rfl rfl ?_
   refine L.move rfl rfl ?_
   refine L.known (t := 13) rfl (show _ = Value.bool true from congrArg Value.bool (decide_eq_true hne)) ?_
   refine L.guardT (dj := 13) rfl rfl rfl ?_
   refine L.move rfl rfl ?_
   refine L.guardT (dj := 13) rfl rfl rfl ?_
   refine L.move rfl rfl ?_
   refine L.guardT (dj := 13) rfl rfl rfl ?_
   refine L.maxI rfl rfl rfl ?_
   rw [show max (top : Int) 0 = (top : Int) by omega]
   refine L.guardT (dj := 13) rfl rfl rfl ?_
   refine L.convU rfl Tryz.underlying3 Tryz.underlying117 rfl qI ?_
   refine L.guardT (dj := 13) rfl rfl rfl ?_
   refine L.gtI rfl rfl rfl ?_
   refine L.pickT rfl rfl rfl ?_
   refine L.nil ?_
   refine T.thenN ?_
   exact T.toJoin ⟨_, (by simp_all <;> omega), rfl, rfl, rfl⟩ (.cons (t := 19) rfl <| SubK.nil _) (.cons (t := 0) rfl <| .cons (t := 5) rfl <| SubK.nil _) qD qD qF
  ·skip
   refine T.region ?_
   refine L.move rfl rfl ?_
   refine L.nilCheck rfl rfl ?_
   first | refine L.field0 rfl fo165_1 rfl ?_ | refine L.field rfl fo165_1 rfl ?_
   refine L.load rfl sc37 rfl qC ?_
   refine L.eqI rfl rfl rfl ?_
   refine L.move rfl rfl ?_
   refine L.known (t := 13) rfl (show _ = Value.bool false from congrArg Value.bool (decide_eq_false hne)) ?_
   refine L.guardF (dj := 13) (c := false) rfl rfl rfl rfl rfl (by decide) ?_
   refine L.guardF (dj := 13) (c := false) rfl rfl rfl rfl rfl (by decide) ?_
   refine L.guardF (dj := 13) (c := false) rfl rfl rfl rfl rfl (by decide) ?_
   refine L.guardF (dj := 13) (c := false) rfl rfl rfl rfl rfl (by decide) ?_
   refine L.guardF (dj := 13) (c := false) rfl rfl rfl rfl rfl (by decide) ?_
   refine L.pickF rfl rfl rfl ?_
   refine L.nil ?_
   refine T.thenN ?_
   exact T.toJoin ⟨_, (by simp_all <;> omega), rfl, rfl, rfl⟩ (.cons (t := 19) rfl <| SubK.nil _) (.cons (t := 0) rfl <| .cons (t := 5) rfl <| SubK.nil _) qD qD qF
 rintro _ _ _ ⟨w, hw, rfl, rfl, rfl⟩
 refine T.norm3 qA qA qA ?_
 refine T.thenN ?_
 refine T.cutC (fun K' D' M' => ∃ (b2 : Bl), (b2 = if (numR b).2.err = 0 ∧ top < (numR b).1 then failB (numR b).2 5 else (numR b).2) ∧ K' = [] ∧ D' = [] ∧ M' = [cl bb 165 (blR (b2))]) (M0 := [cl bb 165 (blR ((numR b).2))]) (.cons (t := 0) rfl <| .cons (t := 5) rfl <| SubK.nil _) qS ?_ ?_
 ·skip
  refine T.cond rfl (fun h19 => ?_) (fun h19 => ?_)
  ·try simp only [dq] at h19
   refine T.region ?_
   refine L.move rfl rfl ?_
   refine L.call rfl (evs.cons rfl <| evs.cons rfl <| evs.nil) qD qS (bfail_spec (b := (numR b).2) (e := 5)) ?_
   rintro _ _ _ ⟨rfl, rfl, rfl⟩
   refine L.norm qA qA ?_
   refine L.nil ?_
   refine T.thenN ?_
   exact T.toJoin ⟨_, (by rw [if_pos (hw.1 h19)]), rfl, rfl, rfl⟩ (SubK.nil _) (.cons (t := 0) rfl <| .cons (t := 5) rfl <| SubK.nil _) qD qD qF
  ·try simp only [dq] at h19
   refine T.skip (T.thenN ?_)
   exact T.toJoin ⟨_, (by rw [if_neg (fun e => by rw [hw.2 e] at h19; cases h19)]), rfl, rfl, rfl⟩ (SubK.nil _) (.cons (t := 0) rfl <| .cons (t := 5) rfl <| SubK.nil _) qD qD qF
 rintro _ _ _ ⟨b2, hb2, rfl, rfl, rfl⟩
 refine T.norm3 qA qA qA ?_
 have hall := int_all hb2
 have hle := int_le b top
 refine T.thenN (T.seq (T.seq (T.region ?_)))
 refine L.move rfl rfl ?_
 refine L.nilCheck rfl rfl ?_
 first | refine L.field0 rfl fo165_1 rfl ?_ | refine L.field rfl fo165_1 rfl ?_
 refine L.load rfl sc37 rfl qC ?_
 refine L.neI rfl rfl rfl ?_
 refine L.nil ?_
 refine T.thenN ?_
 refine T.cond rfl (fun h26 => ?_) (fun h26 => ?_)
 ·try simp only [dq] at h26
  refine T.seq (T.region ?_)
  refine L.assign rfl rfl ?_
  refine L.nil ?_
  refine T.thenN (T.ret ?_)
  refine T.thenR ?_
  refine T.clEq bb (blR ((intR b top).2)) qP (by rw [hall, if_pos h26]) ?_
  exact T.ret1 rfl rfl ⟨by rw [hall, if_pos h26]; rfl, rfl, rfl⟩ qD qF
 ·try simp only [dq] at h26
  rw [if_neg h26] at hall
  rw [hall] at hle
  refine T.skip (T.thenN (T.seq (T.region ?_)))
  refine L.move rfl rfl ?_
  refine L.convN rfl Tryz.underlying117 Tryz.underlying3 rfl qI ?_
  refine L.assign rfl rfl ?_
  refine L.nil ?_
  refine T.thenN (T.ret ?_)
  refine T.clEq bb (blR ((intR b top).2)) qP (by rw [hall]) ?_
  exact T.ret1 rfl rfl ⟨by rw [hall], rfl, rfl⟩ qD qF
set_option maxHeartbeats 400000 in
theorem bstrr_spec {bb : Nat} {b : Bl} {top : Nat} (ht : top ≤ 1000000000) : Spec Tryz.prog 135 [.pointer (some ⟨bb, 0, none⟩), .int .i64 (top : Int)] [] [cl bb 165 (blR (b))] (fun v D' M' => v = S (strR b top).1 ∧ D' = [] ∧ M' = [cl bb 165 (blR ((strR b top).2))]) := by
 refine Spec.intro (n := 10) Tryz.func135 rfl rfl (by decide) (Nat.le_of_ble_eq_true rfl) rfl (fun _ => qA) (fun _ => qA) ?_
 intro σ D M
 have hle := int_le b top
 refine T.seq (T.region ?_)
 refine L.assign rfl rfl ?_
 refine L.nil ?_
 refine T.thenN (T.seq (T.region ?_))
 refine L.move rfl rfl ?_
 refine L.move rfl rfl ?_
 refine L.move rfl rfl ?_
 refine L.call rfl (evs.cons rfl <| evs.cons rfl <| evs.nil) qD qS (bint_spec (b := b) (top := top) ht) ?_
 rintro _ _ _ ⟨rfl, rfl, rfl⟩
 refine L.norm qA qA ?_
 refine L.call rfl (evs.cons rfl <| evs.cons rfl <| evs.nil) qD qS (bbytes_spec (b := (intR b top).2) (n := (intR b top).1) (by omega)) ?_
 rintro _ _ _ ⟨rfl, rfl, rfl⟩
 refine L.norm qA qA ?_
 refine L.assign rfl rfl ?_
 refine L.nil ?_
 refine T.thenN (T.ret ?_)
 refine T.clEq bb (blR ((strR b top).2)) qP (by rfl) ?_
 exact T.ret1 rfl rfl ⟨rfl, rfl, rfl⟩ qD qF
end Cv
