/-
  The walks: the hash of one block.
-/
import Derived.Test.YtcilkdnbbebjgaaGreatFA11
import Derived.Test.YtcilkdnbbebjgaaGreatCvLe
import Derived.Test.YtcilkdnbbebjgaaGreatCvLc
import Derived.Test.YtcilkdnbbebjgaaGreatProg
import Derived.KernelRfl
set_option linter.unusedVariables false
set_option linter.unusedSimpArgs false
set_option linter.unusedSectionVars false
set_option maxRecDepth 10000
namespace Cv
open Go Go.Proofs

set_option maxHeartbeats 400000 in
theorem rot32 {x : BitVec 32} {n : Nat} (h1 : 1 ≤ n) (h2 : n ≤ 31) : Spec Tryz.prog 173 [W x, .int .i64 (-(n : Int))] [] [] (fun v D' M' => v = W (rotr x n) ∧ D' = [] ∧ M' = []) := by
 refine Spec.intro (n := 17) Tryz.func173 rfl rfl (by decide) (Nat.le_of_ble_eq_true rfl) rfl (fun _ => qA) (fun _ => qA) ?_
 intro σ D M
 refine T.seq (T.region ?_)
 refine L.assign rfl rfl ?_
 refine L.nil ?_
 refine T.thenN (T.seq (T.region ?_))
 refine L.move rfl rfl ?_
 refine L.convI rfl Tryz.underlying3 Tryz.underlying140 rfl ?_
 refine L.andI rfl rfl rfl ?_
 rw [rot_s h1 h2]
 refine L.assign rfl rfl ?_
 refine L.nil ?_
 refine T.thenN (T.seq (T.region ?_))
 refine L.move rfl rfl ?_
 refine L.move rfl rfl ?_
 refine L.shlW rfl rfl rfl rfl ?_
 refine L.move rfl rfl ?_
 refine L.move rfl rfl ?_
 refine L.subU rfl rfl rfl qI ?_
 refine L.shrW rfl rfl rfl (show _ = ((n : Nat) : Int) by omega) ?_
 refine L.orW rfl rfl rfl ?_
 refine L.assign rfl rfl ?_
 refine L.nil ?_
 refine T.thenN (T.ret ?_)
 exact T.ret1 rfl rfl ⟨rfl, rfl, rfl⟩ qD qF
set_option maxHeartbeats 400000 in
theorem turn_spec {x : BitVec 32} {n : Nat} (h1 : 1 ≤ n) (h2 : n ≤ 31) : Spec Tryz.prog 157 [W x, .int .i64 (n : Int)] [] [] (fun v D' M' => v = W (rotr x n) ∧ D' = [] ∧ M' = []) := by
 refine Spec.intro (n := 9) Tryz.func157 rfl rfl (by decide) (Nat.le_of_ble_eq_true rfl) rfl (fun _ => qA) (fun _ => qA) ?_
 intro σ D M
 refine T.seq (T.region ?_)
 refine L.assign rfl rfl ?_
 refine L.nil ?_
 refine T.thenN (T.seq (T.region ?_))
 refine L.move rfl rfl ?_
 refine L.move rfl rfl ?_
 refine L.negN rfl rfl qI ?_
 refine L.call rfl (evs.cons rfl <| evs.cons rfl <| evs.nil) qD qS (rot32 qT qT) ?_
 rintro _ _ _ ⟨rfl, rfl, rfl⟩
 refine L.norm qA qA ?_
 refine L.assign rfl rfl ?_
 refine L.nil ?_
 refine T.thenN (T.ret ?_)
 exact T.ret1 rfl rfl ⟨rfl, rfl, rfl⟩ qD qF
set_option maxHeartbeats 400000 in
theorem rounds_spec   : Spec Tryz.prog 155 [] [] [] (fun v D' M' => v = .agg (ks.map W).toArray ∧ D' = [] ∧ M' = []) := by
 refine Spec.intro (n := 2) Tryz.func155 rfl rfl (by decide) (Nat.le_of_ble_eq_true rfl) rfl (fun _ => qA) (fun _ => qA) ?_
 intro σ D M
 refine T.seq (T.region ?_)
 refine L.alloc rfl ze235 (fun b0 => ?_)
 refine L.nil ?_
 refine T.thenN (T.seq (T.region ?_))
 refine L.build rfl bua235 (BP.one rfl rfl rfl <| BP.one rfl rfl rfl <| BP.one rfl rfl rfl <| BP.one rfl rfl rfl <| BP.one rfl rfl rfl <| BP.one rfl rfl rfl <| BP.one rfl rfl rfl <| BP.one rfl rfl rfl <| BP.one rfl rfl rfl <| BP.one rfl rfl rfl <| BP.one rfl rfl rfl <| BP.one rfl rfl rfl <| BP.one rfl rfl rfl <| BP.one rfl rfl rfl <| BP.one rfl rfl rfl <| BP.one rfl rfl rfl <| BP.one rfl rfl rfl <| BP.one rfl rfl rfl <| BP.one rfl rfl rfl <| BP.one rfl rfl rfl <| BP.one rfl rfl rfl <| BP.one rfl rfl rfl <| BP.one rfl rfl rfl <| BP.one rfl rfl rfl <| BP.one rfl rfl rfl <| BP.one rfl rfl rfl <| BP.one rfl rfl rfl <| BP.one rfl rfl rfl <| BP.one rfl rfl rfl <| BP.one rfl rfl rfl <| BP.one rfl rfl rfl <| BP.one rfl rfl rfl <| BP.one rfl rfl rfl <| BP.one rfl rfl rfl <| BP.one rfl rfl rfl <| BP.one rfl rfl rfl <| BP.one rfl rfl rfl <| BP.one rfl rfl rfl <| BP.one rfl rfl rfl <| BP.one rfl rfl rfl <| BP.one rfl rfl rfl <| BP.one rfl rfl rfl <| BP.one rfl rfl rfl <| BP.one rfl rfl rfl <| BP.one rfl rfl rfl <| BP.one rfl rfl rfl <| BP.one rfl rfl rfl <| BP.one rfl rfl rfl <| BP.one rfl rfl rfl <| BP.one rfl rfl rfl <| BP.one rfl rfl rfl <| BP.one rfl rfl rfl <| BP.one rfl rfl rfl <| BP.one rfl rfl rfl <| BP.one rfl rfl rfl <| BP.one rfl rfl rfl <| BP.one rfl rfl rfl <| BP.one rfl rfl rfl <| BP.one rfl rfl rfl <| BP.one rfl rfl rfl <| BP.one rfl rfl rfl <| BP.one rfl rfl rfl <| BP.one rfl rfl rfl <| BP.one rfl rfl rfl <| BP.doneE (out := []) rfl) ?_
 refine L.storeA ag235 rfl rfl qL qO qU qW ?_
 refine L.nil ?_
 refine T.thenN (T.ret ?_)
 exact T.retA rfl ag235 rfl qN ⟨rfl, rfl, rfl⟩ qD qF
set_option maxHeartbeats 400000 in
theorem spread_spec {a : Option Addr} {cap : Nat} {b : List UInt8}  : Spec Tryz.prog 156 [.slice a 64 cap] [rsl 1 a 64 cap (b.map yr)] [] (fun v D' M' => v = .agg ((spr b 64).map W).toArray ∧ D' = [] ∧ M' = []) := by
 refine Spec.intro (n := 83) Tryz.func156 rfl rfl (by decide) (Nat.le_of_ble_eq_true rfl) rfl (fun _ => qA) (fun _ => qA) ?_
 intro σ D M
 refine T.rslLen2 qM (fun hbl hcap => ?_)
 rw [List.length_map] at hbl
 refine T.seq (T.region ?_)
 refine L.alloc rfl ze235 (fun b2 => ?_)
 refine L.nil ?_
 refine T.thenN (T.seq (T.region ?_))
 refine L.alloc rfl ze235 (fun b3 => ?_)
 refine L.nil ?_
 refine T.thenN (T.seq (T.seq (T.region ?_)))
 refine L.move rfl rfl ?_
 refine L.nil ?_
 refine T.thenN (T.block ?_)
 refine T.eqv qP (show cl b3 235 (List.map W (List.replicate 64 0)) = cl b3 235 (List.map W (spr b 0)) from rfl) ?_
 refine T.loop (fun K' D' M' μ => ∃ (k : Nat), (k ≤ 64) ∧ K' = [(9, .int .i64 k)] ∧ D' = [] ∧ M' = [cl b3 235 ((spr b k).map W)] ∧ μ = 64 - k) (.cons (t := 0) rfl <| .cons (t := 2) rfl <| .cons (t := 3) rfl <| SubK.nil _) (⟨0, qT, rfl, rfl, rfl, rfl⟩) (.cons (t := 9) rfl <| SubK.nil _) qD qS ?_
 rintro K1 D1 M1 m1 ⟨k, hk, rfl, rfl, rfl, rfl⟩
 refine T.norm3 qA qA qA ?_
 have hsl := spr_len b k
 refine T.seq (T.region ?_)
 refine L.ltI rfl rfl rfl ?_
 refine L.nil ?_
 refine T.thenN (T.seq ?_)
 refine T.cond rfl (fun h10 => ?_) (fun h10 => ?_)
 ·try simp only [dq] at h10
  refine T.skip (T.thenN (T.seq (T.block (T.seq (T.region ?_)))))
  refine L.move rfl rfl ?_
  refine L.assign rfl rfl ?_
  refine L.nil ?_
  refine T.thenN (T.seq (T.seq (T.region ?_)))
  refine L.move rfl rfl ?_
  refine L.ltI rfl rfl rfl ?_
  refine L.nil ?_
  refine T.thenN ?_
  refine T.cond rfl (fun h13 => ?_) (fun h13 => ?_)
  ·try simp only [dq] at h13
   refine T.seq (T.seq (T.region ?_))
   refine L.move rfl rfl ?_
   refine L.move rfl rfl ?_
   refine L.mulN rfl rfl rfl (by omega) ?_
   refine L.move rfl rfl ?_
   refine L.mulN rfl rfl rfl (by omega) ?_
   refine L.addN rfl rfl rfl (by omega) ?_
   refine L.sliceR rfl Tryz.underlying97 sz5 rfl (Bd.at (x := 4 * k) rfl (by first | rfl | omega | (simp; done))) (Bd.at (x := 4 * k + 4) rfl (by first | rfl | omega | (simp; done))) qM qI qI qI (fun a20 => ?_)
   rw [show 4 * k + 4 - 4 * k = 4 by omega]
   refine L.lenSl rfl Tryz.underlying97 rfl ?_
   refine L.move rfl rfl ?_
   refine L.nil ?_
   refine T.thenN (T.block ?_)
   refine T.eqv qP (show cl b3 235 (List.map W (spr b k)) = cl b3 235 (List.map W ((spr b k).set k (acc b k (gd (spr b k) k) 0))) from by rw [acc_0, set_gd]) ?_
   refine T.loop (fun K' D' M' μ => ∃ (j : Nat), (j ≤ 4) ∧ K' = [(22, .int .i64 j)] ∧ D' = [] ∧ M' = [cl b3 235 (((spr b k).set k (acc b k (gd (spr b k) k) j)).map W)] ∧ μ = 4 - j) (.cons (t := 0) rfl <| .cons (t := 2) rfl <| .cons (t := 3) rfl <| .cons (t := 4) rfl <| .cons (t := 9) rfl <| .cons (t := 20) rfl <| .cons (t := 21) rfl <| SubK.nil _) (⟨0, qT, rfl, rfl, rfl, rfl⟩) (.cons (t := 22) rfl <| SubK.nil _) qD qS ?_
   rintro K1 D1 M1 m1 ⟨j, hj, rfl, rfl, rfl, rfl⟩
   refine T.norm3 qA qA qA ?_
   refine T.seq (T.region ?_)
   refine L.ltI rfl rfl rfl ?_
   refine L.nil ?_
   refine T.thenN (T.seq ?_)
   refine T.cond rfl (fun h23 => ?_) (fun h23 => ?_)
   ·try simp only [dq] at h23
    refine T.skip (T.thenN (T.seq (T.block (T.seq ?_))))
    have hr : (((b.map yr).drop (4 * k)).take 4)[j]? = some (yr (gd b (4 * k + j))) := by
     rw [List.getElem?_take_of_lt (by omega), List.getElem?_drop]; exact map_get (gd_get (by omega))
    refine T.region ?_
    refine L.idx rfl Tryz.underlying97 sz5 rfl rfl qM rfl qG (fun b24 o24 => ?_)
    refine L.load rfl sc5 rfl qC ?_
    refine L.assign rfl rfl ?_
    refine L.nil ?_
    refine T.thenN (T.region ?_)
    refine L.move rfl rfl ?_
    refine L.move rfl rfl ?_
    refine L.idxA1 rfl Tryz.underlying235 sz163 rfl rfl rfl qI ?_
    refine L.load rfl sc163 rfl qC ?_
    refine L.shlW rfl rfl rfl rfl ?_
    refine L.move rfl rfl ?_
    refine L.convYW rfl Tryz.underlying5 Tryz.underlying163 rfl ?_
    refine L.orW rfl rfl rfl ?_
    refine L.idxA1 rfl Tryz.underlying235 sz163 rfl rfl rfl qI ?_
    refine L.store sc163 rfl rfl rfl qU qE ?_
    refine L.nil ?_
    refine T.eqv qP (B := cl b3 235 (((spr b k).set k (acc b k (gd (spr b k) k) (j + 1))).map W)) (by rw [acc_s (by omega), gd_set (by omega), if_pos rfl, List.set_set]; rfl) ?_
    refine T.blkN (T.thenN (T.region ?_))
    refine L.addN rfl rfl rfl (by omega) ?_
    refine L.move rfl rfl ?_
    refine L.nil ?_
    refine T.thenN ?_
    exact T.back ⟨j + 1, qT, rfl, rfl, rfl, rfl⟩ qI (.cons (t := 22) rfl <| SubK.nil _) (.cons (t := 0) rfl <| .cons (t := 2) rfl <| .cons (t := 3) rfl <| .cons (t := 4) rfl <| .cons (t := 9) rfl <| .cons (t := 20) rfl <| .cons (t := 21) rfl <| SubK.nil _) qD qD qF
   ·try simp only [dq] at h23
    obtain rfl : j = 4 := by omega
    refine T.eqv qP (show cl b3 235 (List.map W ((spr b k).set k (acc b k (gd (spr b k) k) 4))) = cl b3 235 (List.map W (spr b (k + 1))) from by rw [spr, if_pos (by omega)]) ?_
    refine T.exit (T.thenX (T.thenX (T.blkX (T.thenN (T.exit (T.thenX (T.blkX (T.thenN (T.region ?_)))))))))
    refine L.addN rfl rfl rfl (by omega) ?_
    refine L.move rfl rfl ?_
    refine L.nil ?_
    refine T.thenN ?_
    exact T.back ⟨k + 1, qT, rfl, rfl, rfl, rfl⟩ qI (.cons (t := 9) rfl <| SubK.nil _) (.cons (t := 0) rfl <| .cons (t := 2) rfl <| .cons (t := 3) rfl <| SubK.nil _) qD qD qF
  ·try simp only [dq] at h13
   refine T.skip (T.thenN (T.seq ?_))
   refine T.regionQ qk qk ?_
   refine L.move rfl rfl ?_
   refine L.subN rfl rfl rfl (by omega) ?_
   refine L.idxA1 (i := k - 15) rfl Tryz.underlying235 sz163 rfl rfl (by first | rfl | omega | (simp; done)) qI ?_
   refine L.load rfl sc163 rfl qC ?_
   refine L.move rfl rfl ?_
   refine L.subN rfl rfl rfl (by omega) ?_
   refine L.idxA1 (i := k - 2) rfl Tryz.underlying235 sz163 rfl rfl (by first | rfl | omega | (simp; done)) qI ?_
   refine L.load rfl sc163 rfl qC ?_
   refine L.assign rfl rfl ?_
   refine L.assign rfl rfl ?_
   refine L.nilQ ?_
   refine T.thenN (T.seq ?_)
   refine T.regionA (clsL [1, 1, 1, 0, 0, 1, 1, 0, 0, 1, 0, 2]) qk ?_
   refine A.takeP (i := 0) rfl rfl rfl rfl qk qk qk rfl qD ?_
   refine L.move rfl rfl ?_
   refine A.took ?_
   refine A.takeP (i := 1) rfl rfl rfl rfl qk qk qk rfl qD ?_
   refine L.move rfl rfl ?_
   refine A.took ?_
   refine A.takeP (i := 2) rfl rfl rfl rfl qk qk qk rfl qD ?_
   refine L.subN rfl rfl rfl (by omega) ?_
   refine A.took ?_
   refine A.takeP (i := 5) rfl rfl rfl rfl qk qk qk rfl qD ?_
   refine L.move rfl rfl ?_
   refine A.took ?_
   refine A.takeP (i := 6) rfl rfl rfl rfl qk qk qk rfl qD ?_
   refine L.subN rfl rfl rfl (by omega) ?_
   refine A.took ?_
   refine A.take (i := 3) rfl rfl rfl rfl qk qk qk qk rfl qD qF ?_
   refine L.idxA1 (i := k - 16) rfl Tryz.underlying235 sz163 rfl rfl (by first | rfl | omega | (simp; done)) qI ?_
   refine A.took ?_
   refine A.take (i := 4) rfl rfl rfl rfl qk qk qk qk rfl qD qF ?_
   refine L.load rfl sc163 rfl qC ?_
   refine A.took ?_
   refine A.take (i := 7) rfl rfl rfl rfl qk qk qk qk rfl qD qF ?_
   refine L.idxA1 (i := k - 7) rfl Tryz.underlying235 sz163 rfl rfl (by first | rfl | omega | (simp; done)) qI ?_
   refine A.took ?_
   refine A.take (i := 8) rfl rfl rfl rfl qk qk qk qk rfl qD qF ?_
   refine L.load rfl sc163 rfl qC ?_
   refine A.took ?_
   refine A.takeP (i := 9) rfl rfl rfl rfl qk qk qk rfl qD ?_
   refine L.addW rfl rfl rfl ?_
   refine A.took ?_
   refine A.take (i := 10) rfl rfl rfl rfl qk qk qk qk rfl qD qF ?_
   refine L.idxA1 rfl Tryz.underlying235 sz163 rfl rfl rfl qI ?_
   refine A.took ?_
   refine A.branch (is := [11]) qk (by decide) (Each.cons rfl ?_ <| Each.nil) 
   refine L.store sc163 rfl rfl rfl qU qE ?_
   refine A.backT rfl qD ?_
   refine A.done qk ?_
   refine T.thenN (T.seq ?_)
   refine T.regionA (clsL [1, 0, 0, 1, 0, 1, 0, 1, 1, 1, 1, 1, 0, 2]) qk ?_
   refine A.takeP (i := 0) rfl rfl rfl rfl qk qk qk rfl qD ?_
   refine L.move rfl rfl ?_
   refine A.took ?_
   refine A.takeP (i := 3) rfl rfl rfl rfl qk qk qk rfl qD ?_
   refine L.move rfl rfl ?_
   refine A.took ?_
   refine A.takeP (i := 5) rfl rfl rfl rfl qk qk qk rfl qD ?_
   refine L.move rfl rfl ?_
   refine A.took ?_
   refine A.takeP (i := 8) rfl rfl rfl rfl qk qk qk rfl qD ?_
   refine L.move rfl rfl ?_
   refine A.took ?_
   refine A.takeP (i := 9) rfl rfl rfl rfl qk qk qk rfl qD ?_
   refine L.shrW rfl rfl rfl rfl ?_
   refine A.took ?_
   refine A.take (i := 1) rfl rfl rfl rfl qk qk qk qk rfl qD qF ?_
   refine L.idxA1 rfl Tryz.underlying235 sz163 rfl rfl rfl qI ?_
   refine A.took ?_
   refine A.take (i := 2) rfl rfl rfl rfl qk qk qk qk rfl qD qF ?_
   refine L.load rfl sc163 rfl qC ?_
   refine A.took ?_
   refine A.branch (is := [4]) qk (by decide) (Each.cons rfl ?_ <| Each.nil) 
   refine L.callF rfl (evs.cons rfl <| evs.cons rfl <| evs.nil) qD qS (turn_spec (n := 7) (by omega) (by omega)) (by rintro u D1 M1 ⟨rfl, rfl, rfl⟩; exact ⟨rfl, _, qA, qF⟩) ?_
   refine A.back rfl qD qF ?_
   refine A.branch (is := [6]) qk (by decide) (Each.cons rfl ?_ <| Each.nil) 
   refine L.callF rfl (evs.cons rfl <| evs.cons rfl <| evs.nil) qD qS (turn_spec (n := 18) (by omega) (by omega)) (by rintro u D1 M1 ⟨rfl, rfl, rfl⟩; exact ⟨rfl, _, qA, qF⟩) ?_
   refine A.back rfl qD qF ?_
   refine A.takeP (i := 7) rfl rfl rfl rfl qk qk qk rfl qD ?_
   refine L.xorW rfl rfl rfl ?_
   refine A.took ?_
   refine A.takeP (i := 10) rfl rfl rfl rfl qk qk qk rfl qD ?_
   refine L.xorW rfl rfl rfl ?_
   refine A.took ?_
   refine A.takeP (i := 11) rfl rfl rfl rfl qk qk qk rfl qD ?_
   refine L.addW rfl rfl rfl ?_
   refine A.took ?_
   refine A.take (i := 12) rfl rfl rfl rfl qk qk qk qk rfl qD qF ?_
   refine L.idxA1 rfl Tryz.underlying235 sz163 rfl rfl rfl qI ?_
   refine A.took ?_
   refine A.branch (is := [13]) qk (by decide) (Each.cons rfl ?_ <| Each.nil) 
   refine L.store sc163 rfl rfl rfl qU qE ?_
   refine A.backT rfl qD ?_
   refine A.done qk ?_
   refine T.thenN ?_
   refine T.regionA (clsL [1, 0, 0, 1, 0, 1, 0, 1, 1, 1, 1, 1, 0, 2]) qk ?_
   refine A.takeP (i := 0) rfl rfl rfl rfl qk qk qk rfl qD ?_
   refine L.move rfl rfl ?_
   refine A.took ?_
   refine A.takeP (i := 3) rfl rfl rfl rfl qk qk qk rfl qD ?_
   refine L.move rfl rfl ?_
   refine A.took ?_
   refine A.takeP (i := 5) rfl rfl rfl rfl qk qk qk rfl qD ?_
   refine L.move rfl rfl ?_
   refine A.took ?_
   refine A.takeP (i := 8) rfl rfl rfl rfl qk qk qk rfl qD ?_
   refine L.move rfl rfl ?_
   refine A.took ?_
   refine A.takeP (i := 9) rfl rfl rfl rfl qk qk qk rfl qD ?_
   refine L.shrW rfl rfl rfl rfl ?_
   refine A.took ?_
   refine A.take (i := 1) rfl rfl rfl rfl qk qk qk qk rfl qD qF ?_
   refine L.idxA1 rfl Tryz.underlying235 sz163 rfl rfl rfl qI ?_
   refine A.took ?_
   refine A.take (i := 2) rfl rfl rfl rfl qk qk qk qk rfl qD qF ?_
   refine L.load rfl sc163 rfl qC ?_
   refine A.took ?_
   refine A.branch (is := [4]) qk (by decide) (Each.cons rfl ?_ <| Each.nil) 
   refine L.callF rfl (evs.cons rfl <| evs.cons rfl <| evs.nil) qD qS (turn_spec (n := 17) (by omega) (by omega)) (by rintro u D1 M1 ⟨rfl, rfl, rfl⟩; exact ⟨rfl, _, qA, qF⟩) ?_
   refine A.back rfl qD qF ?_
   refine A.branch (is := [6]) qk (by decide) (Each.cons rfl ?_ <| Each.nil) 
   refine L.callF rfl (evs.cons rfl <| evs.cons rfl <| evs.nil) qD qS (turn_spec (n := 19) (by omega) (by omega)) (by rintro u D1 M1 ⟨rfl, rfl, rfl⟩; exact ⟨rfl, _, qA, qF⟩) ?_
   refine A.back rfl qD qF ?_
   refine A.takeP (i := 7) rfl rfl rfl rfl qk qk qk rfl qD ?_
   refine L.xorW rfl rfl rfl ?_
   refine A.took ?_
   refine A.takeP (i := 10) rfl rfl rfl rfl qk qk qk rfl qD ?_
   refine L.xorW rfl rfl rfl ?_
   refine A.took ?_
   refine A.takeP (i := 11) rfl rfl rfl rfl qk qk qk rfl qD ?_
   refine L.addW rfl rfl rfl ?_
   refine A.took ?_
   refine A.take (i := 12) rfl rfl rfl rfl qk qk qk qk rfl qD qF ?_
   refine L.idxA1 rfl Tryz.underlying235 sz163 rfl rfl rfl qI ?_
   refine A.took ?_
   refine A.branch (is := [13]) qk (by decide) (Each.cons rfl ?_ <| Each.nil) 
   refine L.store sc163 rfl rfl rfl qU qE ?_
   refine A.backT rfl qD ?_
   refine A.done qk ?_
   refine T.eqv qP (B := cl b3 235 ((spr b (k + 1)).map W)) (by rw [spr, if_neg (by omega)]; simp only [List.set_set, gd_set, hsl, List.length_set, show k < 64 by omega, if_true]; rfl) ?_
   refine T.blkN (T.thenN (T.region ?_))
   refine L.addN rfl rfl rfl (by omega) ?_
   refine L.move rfl rfl ?_
   refine L.nil ?_
   refine T.thenN ?_
   exact T.back ⟨k + 1, qT, rfl, rfl, rfl, rfl⟩ qI (.cons (t := 9) rfl <| SubK.nil _) (.cons (t := 0) rfl <| .cons (t := 2) rfl <| .cons (t := 3) rfl <| SubK.nil _) qD qD qF
 ·try simp only [dq] at h10
  obtain rfl : k = 64 := by omega
  refine T.exit (T.thenX (T.thenX (T.blkX (T.thenN (T.seq (T.region ?_))))))
  refine L.loadA rfl ag235 rfl qN ?_
  refine L.storeA ag235 rfl rfl qL qO qU qW ?_
  refine L.nil ?_
  refine T.thenN (T.ret ?_)
  exact T.retA rfl ag235 rfl qN ⟨rfl, rfl, rfl⟩ qD qF
set_option maxHeartbeats 400000 in
theorem block_spec {s : Nat} {a : Option Addr} {cap : Nat} {b : List UInt8} {h : List W32} {tl : List Value} (hl : h.length = 8) : Spec Tryz.prog 124 [.pointer (some ⟨s, 0, none⟩), .slice a 64 cap] [rsl 1 a 64 cap (b.map yr)] [cl s 209 (h.map W ++ tl)] (fun v D' M' => v = .tuple #[] ∧ D' = [] ∧ M' = [cl s 209 ((blockF h b).map W ++ tl)]) := by
 refine Spec.intro (n := 111) Tryz.func124 rfl rfl (by decide) (Nat.le_of_ble_eq_true rfl) rfl (fun _ => qA) (fun _ => qA) ?_
 intro σ D M
 have hkl : ks.length = 64 := rfl
 refine T.seq ?_
 refine T.cutC (fun K' D' M' => ∃ (b4 b5 : Nat), K' = [(4, .pointer (some ⟨b4, 0, none⟩)), (5, .pointer (some ⟨b5, 0, none⟩))] ∧ D' = [] ∧ M' = [cl b4 207 (h.map W), cl b5 235 (ks.map W)]) (M0 := []) (.cons (t := 0) rfl <| .cons (t := 1) rfl <| SubK.nil _) qS ?_ ?_
 ·skip
  refine T.regionA (clsL [1, 0, 1, 0, 0, 0, 0, 2, 2]) qk ?_
  refine A.takeP (i := 0) rfl rfl rfl rfl qk qk qk rfl qD ?_
  refine L.move rfl rfl ?_
  refine A.took ?_
  refine A.nilCheck (i := 1) rfl rfl qk qk qk qk rfl qD qF rfl ?_
  refine A.takeP (i := 2) rfl rfl rfl rfl qk qk qk rfl qD ?_
  first | refine L.field0 rfl fo209_0 rfl ?_ | refine L.field rfl fo209_0 rfl ?_
  refine A.took ?_
  refine A.take (i := 3) rfl rfl rfl rfl qk qk qk qk rfl qD qF ?_
  refine L.loadA rfl ag207 rfl qN ?_
  refine A.took ?_
  refine A.branch (is := [4, 5, 6]) qk (by decide) (Each.cons rfl ?_ <| Each.cons rfl ?_ <| Each.cons rfl ?_ <| Each.nil) 
  ·skip
   refine L.call rfl (evs.nil) qD qS (rounds_spec ) ?_
   rintro _ _ _ ⟨rfl, rfl, rfl⟩
   refine L.norm qA qA ?_
   refine A.back rfl qD qF ?_
   refine A.branch (is := [5, 6]) qk (by decide) (Each.cons rfl ?_ <| Each.cons rfl ?_ <| Each.nil) 
   ·skip
    refine L.alloc rfl ze207 (fun b4 => ?_)
    refine A.back rfl qD qF ?_
    refine A.branch (is := [6]) qk (by decide) (Each.cons rfl ?_ <| Each.nil) 
    refine L.alloc rfl ze235 (fun b5 => ?_)
    refine A.back rfl qD qF ?_
    refine A.branch (is := [7]) qk (by decide) (Each.cons rfl ?_ <| Each.nil) 
    refine L.storeA ag207 rfl rfl qL qO qU qW ?_
    refine A.backT rfl qD ?_
    refine A.branch (is := [8]) qk (by decide) (Each.cons rfl ?_ <| Each.nil) 
    refine L.storeA ag235 rfl rfl qL qO qU qW ?_
    refine A.backT rfl qD ?_
    refine A.done qk ?_
    refine T.thenN ?_
    exact T.toJoin ⟨_, _, rfl, rfl, rfl⟩ (.cons (t := 4) rfl <| .cons (t := 5) rfl <| SubK.nil _) (.cons (t := 0) rfl <| .cons (t := 1) rfl <| SubK.nil _) qD qD qF
   ·skip
    refine L.alloc rfl ze235 (fun b5 => ?_)
    refine A.back rfl qD qF ?_
    refine A.branch (is := [5]) qk (by decide) (Each.cons rfl ?_ <| Each.nil) 
    refine L.alloc rfl ze207 (fun b4 => ?_)
    refine A.back rfl qD qF ?_
    refine A.branch (is := [7]) qk (by decide) (Each.cons rfl ?_ <| Each.nil) 
    refine L.storeA ag207 rfl rfl qL qO qU qW ?_
    refine A.backT rfl qD ?_
    refine A.branch (is := [8]) qk (by decide) (Each.cons rfl ?_ <| Each.nil) 
    refine L.storeA ag235 rfl rfl qL qO qU qW ?_
    refine A.backT rfl qD ?_
    refine A.done qk ?_
    refine T.thenN ?_
    exact T.toJoin ⟨_, _, rfl, rfl, rfl⟩ (.cons (t := 4) rfl <| .cons (t := 5) rfl <| SubK.nil _) (.cons (t := 0) rfl <| .cons (t := 1) rfl <| SubK.nil _) qD qD qF
  ·skip
   refine L.alloc rfl ze207 (fun b4 => ?_)
   refine A.back rfl qD qF ?_
   refine A.branch (is := [4, 6]) qk (by decide) (Each.cons rfl ?_ <| Each.cons rfl ?_ <| Each.nil) 
   ·skip
    refine L.call rfl (evs.nil) qD qS (rounds_spec ) ?_
    rintro _ _ _ ⟨rfl, rfl, rfl⟩
    refine L.norm qA qA ?_
    refine A.back rfl qD qF ?_
    refine A.branch (is := [6]) qk (by decide) (Each.cons rfl ?_ <| Each.nil) 
    refine L.alloc rfl ze235 (fun b5 => ?_)
    refine A.back rfl qD qF ?_
    refine A.branch (is := [7]) qk (by decide) (Each.cons rfl ?_ <| Each.nil) 
    refine L.storeA ag207 rfl rfl qL qO qU qW ?_
    refine A.backT rfl qD ?_
    refine A.branch (is := [8]) qk (by decide) (Each.cons rfl ?_ <| Each.nil) 
    refine L.storeA ag235 rfl rfl qL qO qU qW ?_
    refine A.backT rfl qD ?_
    refine A.done qk ?_
    refine T.thenN ?_
    exact T.toJoin ⟨_, _, rfl, rfl, rfl⟩ (.cons (t := 4) rfl <| .cons (t := 5) rfl <| SubK.nil _) (.cons (t := 0) rfl <| .cons (t := 1) rfl <| SubK.nil _) qD qD qF
   ·skip
    refine L.alloc rfl ze235 (fun b5 => ?_)
    refine A.back rfl qD qF ?_
    refine A.branch (is := [4]) qk (by decide) (Each.cons rfl ?_ <| Each.nil) 
    refine L.call rfl (evs.nil) qD qS (rounds_spec ) ?_
    rintro _ _ _ ⟨rfl, rfl, rfl⟩
    refine L.norm qA qA ?_
    refine A.back rfl qD qF ?_
    refine A.branch (is := [7]) qk (by decide) (Each.cons rfl ?_ <| Each.nil) 
    refine L.storeA ag207 rfl rfl qL qO qU qW ?_
    refine A.backT rfl qD ?_
    refine A.branch (is := [8]) qk (by decide) (Each.cons rfl ?_ <| Each.nil) 
    refine L.storeA ag235 rfl rfl qL qO qU qW ?_
    refine A.backT rfl qD ?_
    refine A.done qk ?_
    refine T.thenN ?_
    exact T.toJoin ⟨_, _, rfl, rfl, rfl⟩ (.cons (t := 4) rfl <| .cons (t := 5) rfl <| SubK.nil _) (.cons (t := 0) rfl <| .cons (t := 1) rfl <| SubK.nil _) qD qD qF
  ·skip
   refine L.alloc rfl ze235 (fun b5 => ?_)
   refine A.back rfl qD qF ?_
   refine A.branch (is := [4, 5]) qk (by decide) (Each.cons rfl ?_ <| Each.cons rfl ?_ <| Each.nil) 
   ·skip
    refine L.call rfl (evs.nil) qD qS (rounds_spec ) ?_
    rintro _ _ _ ⟨rfl, rfl, rfl⟩
    refine L.norm qA qA ?_
    refine A.back rfl qD qF ?_
    refine A.branch (is := [5]) qk (by decide) (Each.cons rfl ?_ <| Each.nil) 
    refine L.alloc rfl ze207 (fun b4 => ?_)
    refine A.back rfl qD qF ?_
    refine A.branch (is := [7]) qk (by decide) (Each.cons rfl ?_ <| Each.nil) 
    refine L.storeA ag207 rfl rfl qL qO qU qW ?_
    refine A.backT rfl qD ?_
    refine A.branch (is := [8]) qk (by decide) (Each.cons rfl ?_ <| Each.nil) 
    refine L.storeA ag235 rfl rfl qL qO qU qW ?_
    refine A.backT rfl qD ?_
    refine A.done qk ?_
    refine T.thenN ?_
    exact T.toJoin ⟨_, _, rfl, rfl, rfl⟩ (.cons (t := 4) rfl <| .cons (t := 5) rfl <| SubK.nil _) (.cons (t := 0) rfl <| .cons (t := 1) rfl <| SubK.nil _) qD qD qF
   ·skip
    refine L.alloc rfl ze207 (fun b4 => ?_)
    refine A.back rfl qD qF ?_
    refine A.branch (is := [4]) qk (by decide) (Each.cons rfl ?_ <| Each.nil) 
    refine L.call rfl (evs.nil) qD qS (rounds_spec ) ?_
    rintro _ _ _ ⟨rfl, rfl, rfl⟩
    refine L.norm qA qA ?_
    refine A.back rfl qD qF ?_
    refine A.branch (is := [7]) qk (by decide) (Each.cons rfl ?_ <| Each.nil) 
    refine L.storeA ag207 rfl rfl qL qO qU qW ?_
    refine A.backT rfl qD ?_
    refine A.branch (is := [8]) qk (by decide) (Each.cons rfl ?_ <| Each.nil) 
    refine L.storeA ag235 rfl rfl qL qO qU qW ?_
    refine A.backT rfl qD ?_
    refine A.done qk ?_
    refine T.thenN ?_
    exact T.toJoin ⟨_, _, rfl, rfl, rfl⟩ (.cons (t := 4) rfl <| .cons (t := 5) rfl <| SubK.nil _) (.cons (t := 0) rfl <| .cons (t := 1) rfl <| SubK.nil _) qD qD qF
 rintro _ _ _ ⟨b4, b5, rfl, rfl, rfl⟩
 refine T.norm3 qA qA qA ?_
 refine T.thenN (T.seq (T.seq (T.region ?_)))
 refine L.move rfl rfl ?_
 refine L.call rfl (evs.cons rfl <| evs.nil) qD qS (spread_spec ) ?_
 rintro _ _ _ ⟨rfl, rfl, rfl⟩
 refine L.norm qA qA ?_
 refine L.move rfl rfl ?_
 refine L.nil ?_
 refine T.thenN (T.block ?_)
 refine T.eqv qP (show cl b4 207 (List.map W h) = cl b4 207 (List.map W (rnds h (spr b 64) 0)) from rfl) ?_
 have hsl := spr_len b 64
 refine T.loop (fun K' D' M' μ => ∃ (k : Nat), (k ≤ 64) ∧ K' = [(20, .int .i64 k)] ∧ D' = [] ∧ M' = [cl b4 207 ((rnds h (spr b 64) k).map W)] ∧ μ = 64 - k) (.cons (t := 0) rfl <| .cons (t := 4) rfl <| .cons (t := 5) rfl <| .cons (t := 19) rfl <| SubK.nil _) (⟨0, qT, rfl, rfl, rfl, rfl⟩) (.cons (t := 20) rfl <| SubK.nil _) qD qS ?_
 rintro K1 D1 M1 m1 ⟨k, hk, rfl, rfl, rfl, rfl⟩
 refine T.norm3 qA qA qA ?_
 refine T.seq (T.region ?_)
 refine L.ltI rfl rfl rfl ?_
 refine L.nil ?_
 refine T.thenN (T.seq ?_)
 refine T.cond rfl (fun h21 => ?_) (fun h21 => ?_)
 ·try simp only [dq] at h21
  obtain ⟨v0, v1, v2, v3, v4, v5, v6, v7, hv⟩ := len8 (rnds_len (ws := spr b 64) hl k)
  refine T.eqv qP (show cl b4 207 (List.map W (rnds h (spr b 64) k)) = cl b4 207 [W v0, W v1, W v2, W v3, W v4, W v5, W v6, W v7] from by rw [hv]; rfl) ?_
  refine T.skip (T.thenN (T.seq (T.block (T.seq (T.region ?_)))))
  refine L.move rfl rfl ?_
  refine L.indexV rfl Tryz.underlying235 sc163 rfl rfl rfl qI (by first | exact map_get (gd_get qL) | assumption | rfl) ?_
  refine L.assign rfl rfl ?_
  refine L.assign rfl rfl ?_
  refine L.nil ?_
  refine T.thenN (T.seq ?_)
  refine T.regionQ qk qk ?_
  refine L.idxA1 rfl Tryz.underlying207 sz163 rfl rfl rfl qI ?_
  refine L.load rfl sc163 rfl qC ?_
  refine L.idxA1 rfl Tryz.underlying207 sz163 rfl rfl rfl qI ?_
  refine L.load rfl sc163 rfl qC ?_
  refine L.assign rfl rfl ?_
  refine L.assign rfl rfl ?_
  refine L.nilQ ?_
  refine T.thenN (T.seq ?_)
  refine T.regionQ qk qk ?_
  refine L.idxA1 rfl Tryz.underlying207 sz163 rfl rfl rfl qI ?_
  refine L.load rfl sc163 rfl qC ?_
  refine L.move rfl rfl ?_
  refine L.idxA1 rfl Tryz.underlying235 sz163 rfl rfl rfl qI ?_
  refine L.load rfl sc163 rfl qC ?_
  refine L.addW rfl rfl rfl ?_
  refine L.move rfl rfl ?_
  refine L.addW rfl rfl rfl ?_
  refine L.assign rfl rfl ?_
  refine L.nilQ ?_
  refine T.thenN (T.seq (T.region ?_))
  refine L.move rfl rfl ?_
  refine L.move rfl rfl ?_
  refine L.callF rfl (evs.cons rfl <| evs.cons rfl <| evs.nil) qD qS (turn_spec (n := 6) (by omega) (by omega)) (by rintro u D1 M1 ⟨rfl, rfl, rfl⟩; exact ⟨rfl, _, qA, qF⟩) ?_
  refine L.move rfl rfl ?_
  refine L.callF rfl (evs.cons rfl <| evs.cons rfl <| evs.nil) qD qS (turn_spec (n := 11) (by omega) (by omega)) (by rintro u D1 M1 ⟨rfl, rfl, rfl⟩; exact ⟨rfl, _, qA, qF⟩) ?_
  refine L.xorW rfl rfl rfl ?_
  refine L.move rfl rfl ?_
  refine L.callF rfl (evs.cons rfl <| evs.cons rfl <| evs.nil) qD qS (turn_spec (n := 25) (by omega) (by omega)) (by rintro u D1 M1 ⟨rfl, rfl, rfl⟩; exact ⟨rfl, _, qA, qF⟩) ?_
  refine L.xorW rfl rfl rfl ?_
  refine L.addW rfl rfl rfl ?_
  refine L.assign rfl rfl ?_
  refine L.nil ?_
  refine T.thenN (T.seq (T.region ?_))
  refine L.move rfl rfl ?_
  refine L.move rfl rfl ?_
  refine L.idxA1 rfl Tryz.underlying207 sz163 rfl rfl rfl qI ?_
  refine L.load rfl sc163 rfl qC ?_
  refine L.andW rfl rfl rfl ?_
  refine L.move rfl rfl ?_
  refine L.notW rfl rfl ?_
  refine L.idxA1 rfl Tryz.underlying207 sz163 rfl rfl rfl qI ?_
  refine L.load rfl sc163 rfl qC ?_
  refine L.andW rfl rfl rfl ?_
  refine L.orW rfl rfl rfl ?_
  refine L.addW rfl rfl rfl ?_
  refine L.assign rfl rfl ?_
  refine L.nil ?_
  refine T.thenN (T.seq (T.region ?_))
  refine L.move rfl rfl ?_
  refine L.callF rfl (evs.cons rfl <| evs.cons rfl <| evs.nil) qD qS (turn_spec (n := 2) (by omega) (by omega)) (by rintro u D1 M1 ⟨rfl, rfl, rfl⟩; exact ⟨rfl, _, qA, qF⟩) ?_
  refine L.move rfl rfl ?_
  refine L.callF rfl (evs.cons rfl <| evs.cons rfl <| evs.nil) qD qS (turn_spec (n := 13) (by omega) (by omega)) (by rintro u D1 M1 ⟨rfl, rfl, rfl⟩; exact ⟨rfl, _, qA, qF⟩) ?_
  refine L.xorW rfl rfl rfl ?_
  refine L.move rfl rfl ?_
  refine L.callF rfl (evs.cons rfl <| evs.cons rfl <| evs.nil) qD qS (turn_spec (n := 22) (by omega) (by omega)) (by rintro u D1 M1 ⟨rfl, rfl, rfl⟩; exact ⟨rfl, _, qA, qF⟩) ?_
  refine L.xorW rfl rfl rfl ?_
  refine L.assign rfl rfl ?_
  refine L.nil ?_
  refine T.thenN (T.seq (T.region ?_))
  refine L.move rfl rfl ?_
  refine L.move rfl rfl ?_
  refine L.idxA1 rfl Tryz.underlying207 sz163 rfl rfl rfl qI ?_
  refine L.load rfl sc163 rfl qC ?_
  refine L.idxA1 rfl Tryz.underlying207 sz163 rfl rfl rfl qI ?_
  refine L.load rfl sc163 rfl qC ?_
  refine L.orW rfl rfl rfl ?_
  refine L.andW rfl rfl rfl ?_
  refine L.idxA1 rfl Tryz.underlying207 sz163 rfl rfl rfl qI ?_
  refine L.load rfl sc163 rfl qC ?_
  refine L.idxA1 rfl Tryz.underlying207 sz163 rfl rfl rfl qI ?_
  refine L.load rfl sc163 rfl qC ?_
  refine L.andW rfl rfl rfl ?_
  refine L.orW rfl rfl rfl ?_
  refine L.addW rfl rfl rfl ?_
  refine L.assign rfl rfl ?_
  refine L.nil ?_
  refine T.thenN (T.seq ?_)
  refine T.regionA (clsL [0, 0, 2]) qk ?_
  refine A.take (i := 0) rfl rfl rfl rfl qk qk qk qk rfl qD qF ?_
  refine L.sliceArr rfl Tryz.underlying207 sz163 rfl (Bd.at rfl rfl) Bd.no qI qI ?_
  refine A.took ?_
  refine A.take (i := 1) rfl rfl rfl rfl qk qk qk qk rfl qD qF ?_
  refine L.sliceArr rfl Tryz.underlying207 sz163 rfl Bd.no (Bd.at rfl rfl) qI qI ?_
  refine A.took ?_
  refine A.branch (is := [2]) qk (by decide) (Each.cons rfl ?_ <| Each.nil) 
  refine L.copyCl rfl Tryz.underlying211 sz163 rfl rfl rfl qN qO qU qE ?_
  refine A.backT rfl qD ?_
  refine A.done qk ?_
  refine T.thenN (T.seq (T.region ?_))
  refine L.idxA1 rfl Tryz.underlying207 sz163 rfl rfl rfl qI ?_
  refine L.load rfl sc163 rfl qC ?_
  refine L.move rfl rfl ?_
  refine L.addW rfl rfl rfl ?_
  refine L.idxA1 rfl Tryz.underlying207 sz163 rfl rfl rfl qI ?_
  refine L.store sc163 rfl rfl rfl qU qE ?_
  refine L.nil ?_
  refine T.thenN (T.region ?_)
  refine L.move rfl rfl ?_
  refine L.move rfl rfl ?_
  refine L.addW rfl rfl rfl ?_
  refine L.idxA1 rfl Tryz.underlying207 sz163 rfl rfl rfl qI ?_
  refine L.store sc163 rfl rfl rfl qU qE ?_
  refine L.nil ?_
  refine T.eqv qP (B := cl b4 207 ((rnds h (spr b 64) (k + 1)).map W)) (by rw [rnds, hv]; rfl) ?_
  refine T.blkN (T.thenN (T.region ?_))
  refine L.addN rfl rfl rfl (by omega) ?_
  refine L.move rfl rfl ?_
  refine L.nil ?_
  refine T.thenN ?_
  exact T.back ⟨k + 1, qT, rfl, rfl, rfl, rfl⟩ qI (.cons (t := 20) rfl <| SubK.nil _) (.cons (t := 0) rfl <| .cons (t := 4) rfl <| .cons (t := 5) rfl <| .cons (t := 19) rfl <| SubK.nil _) qD qD qF
 ·try simp only [dq] at h21
  obtain rfl : k = 64 := by omega
  refine T.exit (T.thenX (T.thenX (T.blkX (T.thenN (T.seq (T.region ?_))))))
  refine L.move rfl rfl ?_
  refine L.nil ?_
  refine T.thenN (T.block ?_)
  refine T.eqv qP (show cl s 209 (List.map W h ++ tl) = cl s 209 (List.map W (addS h (rnds h (spr b 64) 64) 0) ++ tl) from rfl) ?_
  refine T.loop (fun K' D' M' μ => ∃ (k : Nat), (k ≤ 8) ∧ K' = [(94, .int .i64 k)] ∧ D' = [] ∧ M' = [cl s 209 ((addS h (rnds h (spr b 64) 64) k).map W ++ tl)] ∧ μ = 8 - k) (.cons (t := 0) rfl <| .cons (t := 4) rfl <| SubK.nil _) (⟨0, qT, rfl, rfl, rfl, rfl⟩) (.cons (t := 94) rfl <| SubK.nil _) qD qS ?_
  rintro K1 D1 M1 m1 ⟨k, hk, rfl, rfl, rfl, rfl⟩
  refine T.norm3 qA qA qA ?_
  have hal : (addS h (rnds h (spr b 64) 64) k).length = 8 := by rw [addS_len]; exact hl
  have hrl : (rnds h (spr b 64) 64).length = 8 := rnds_len hl _
  refine T.seq (T.region ?_)
  refine L.ltI rfl rfl rfl ?_
  refine L.nil ?_
  refine T.thenN (T.seq ?_)
  refine T.cond rfl (fun h95 => ?_) (fun h95 => ?_)
  ·try simp only [dq] at h95
   refine T.skip (T.thenN (T.seq (T.block (T.seq (T.region ?_)))))
   refine L.move rfl rfl ?_
   refine L.assign rfl rfl ?_
   refine L.nil ?_
   refine T.thenN ?_
   refine T.regionA (clsL [1, 1, 0, 1, 0, 0, 1, 0, 0, 1, 0, 1, 0, 2]) qk ?_
   refine A.takeP (i := 0) rfl rfl rfl rfl qk qk qk rfl qD ?_
   refine L.move rfl rfl ?_
   refine A.took ?_
   refine A.takeP (i := 1) rfl rfl rfl rfl qk qk qk rfl qD ?_
   refine L.move rfl rfl ?_
   refine A.took ?_
   refine A.takeP (i := 6) rfl rfl rfl rfl qk qk qk rfl qD ?_
   refine L.move rfl rfl ?_
   refine A.took ?_
   refine A.nilCheck (i := 2) rfl rfl qk qk qk qk rfl qD qF rfl ?_
   refine A.takeP (i := 3) rfl rfl rfl rfl qk qk qk rfl qD ?_
   first | refine L.field0 rfl fo209_0 rfl ?_ | refine L.field rfl fo209_0 rfl ?_
   refine A.took ?_
   refine A.take (i := 4) rfl rfl rfl rfl qk qk qk qk rfl qD qF ?_
   refine L.idxA1 rfl Tryz.underlying207 sz163 rfl rfl rfl qI ?_
   refine A.took ?_
   refine A.take (i := 5) rfl rfl rfl rfl qk qk qk qk rfl qD qF ?_
   refine L.load rfl sc163 rfl qC ?_
   refine A.took ?_
   refine A.take (i := 7) rfl rfl rfl rfl qk qk qk qk rfl qD qF ?_
   refine L.idxA1 rfl Tryz.underlying207 sz163 rfl rfl rfl qI ?_
   refine A.took ?_
   refine A.take (i := 8) rfl rfl rfl rfl qk qk qk qk rfl qD qF ?_
   refine L.load rfl sc163 rfl qC ?_
   refine A.took ?_
   refine A.takeP (i := 9) rfl rfl rfl rfl qk qk qk rfl qD ?_
   refine L.addW rfl rfl rfl ?_
   refine A.took ?_
   refine A.nilCheck (i := 10) rfl rfl qk qk qk qk rfl qD qF rfl ?_
   refine A.takeP (i := 11) rfl rfl rfl rfl qk qk qk rfl qD ?_
   first | refine L.field0 rfl fo209_0 rfl ?_ | refine L.field rfl fo209_0 rfl ?_
   refine A.took ?_
   refine A.take (i := 12) rfl rfl rfl rfl qk qk qk qk rfl qD qF ?_
   refine L.idxA1 rfl Tryz.underlying207 sz163 rfl rfl rfl qI ?_
   refine A.took ?_
   refine A.branch (is := [13]) qk (by decide) (Each.cons rfl ?_ <| Each.nil) 
   refine L.store sc163 rfl rfl rfl qU qE ?_
   refine A.backT rfl qD ?_
   refine A.done qk ?_
   refine T.eqv qP (B := cl s 209 ((addS h (rnds h (spr b 64) 64) (k + 1)).map W ++ tl)) (by rw [addS]) ?_
   refine T.blkN (T.thenN (T.region ?_))
   refine L.addN rfl rfl rfl (by omega) ?_
   refine L.move rfl rfl ?_
   refine L.nil ?_
   refine T.thenN ?_
   exact T.back ⟨k + 1, qT, rfl, rfl, rfl, rfl⟩ qI (.cons (t := 94) rfl <| SubK.nil _) (.cons (t := 0) rfl <| .cons (t := 4) rfl <| SubK.nil _) qD qD qF
  ·try simp only [dq] at h95
   obtain rfl : k = 8 := by omega
   refine T.eqv qP (show cl s 209 (List.map W (addS h (rnds h (spr b 64) 64) 8) ++ tl) = cl s 209 (List.map W (blockF h b) ++ tl) from rfl) ?_
   refine T.exit (T.thenX (T.thenX (T.blkX ?_)))
   exact T.retN (by simp) rfl ⟨rfl, rfl, rfl⟩ qD qF
end Cv
