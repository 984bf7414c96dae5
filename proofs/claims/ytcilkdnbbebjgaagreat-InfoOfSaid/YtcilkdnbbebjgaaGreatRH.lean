/-
  The walks: the document's hash.
-/
import Derived.Test.YtcilkdnbbebjgaaGreatCvLe
import Derived.Test.YtcilkdnbbebjgaaGreatCvLf
import Derived.Test.YtcilkdnbbebjgaaGreatHH11
import Derived.Test.YtcilkdnbbebjgaaGreatProg
import Derived.KernelRfl
set_option linter.unusedVariables false
set_option linter.unusedSimpArgs false
set_option linter.unusedSectionVars false
set_option maxRecDepth 10000
namespace Cv
open Go Go.Proofs

set_option maxHeartbeats 400000 in
theorem ror_spec {x : W32} {n : Nat} (h1 : 1 ≤ n) (h2 : n ≤ 31) : Spec Tryz.prog 159 [W x, .int .i64 (n : Int)] [] [] (fun v D' M' => v = W (rotr x n) ∧ D' = [] ∧ M' = []) := by
 refine Spec.intro (n := 13) Tryz.func159 rfl rfl (by decide) (Nat.le_of_ble_eq_true rfl) rfl (fun _ => qA) (fun _ => qA) ?_
 intro σ D M
 refine T.seq (T.region ?_)
 refine L.assign rfl rfl ?_
 refine L.nil ?_
 refine T.thenN (T.seq ?_)
 refine T.regionQ qk qk ?_
 refine L.move rfl rfl ?_
 refine L.move rfl rfl ?_
 refine L.shrW rfl rfl rfl rfl ?_
 refine L.move rfl rfl ?_
 refine L.move rfl rfl ?_
 refine L.subN rfl rfl rfl (by omega) ?_
 refine L.shlW rfl rfl rfl (show _ = ((32 - n : Nat) : Int) by omega) ?_
 refine L.addW rfl rfl rfl ?_
 refine L.assign rfl rfl ?_
 refine L.nilQ ?_
 refine T.thenN (T.ret ?_)
 exact T.ret1 rfl rfl ⟨congrArg W (ror_eq h1 h2), rfl, rfl⟩ qD qF
set_option maxHeartbeats 400000 in
theorem key_spec {i : Nat} (hi : i < 64) : Spec Tryz.prog 160 [.int .i64 (i : Int)] [] [] (fun v D' M' => v = W (gd ks i) ∧ D' = [] ∧ M' = []) := by
 refine Spec.intro (n := 9) Tryz.func160 rfl rfl (by decide) (Nat.le_of_ble_eq_true rfl) rfl (fun _ => qA) (fun _ => qA) ?_
 intro σ D M
 have hkl : ks.length = 64 := rfl
 have hg : ks[i]? = some (gd ks i) := gd_get (by omega)
 refine T.seq (T.region ?_)
 refine L.assign rfl rfl ?_
 refine L.nil ?_
 refine T.thenN (T.seq (T.region ?_))
 refine L.buildSlice rfl bs211 (by decide) (BP.one rfl rfl rfl <| BP.one rfl rfl rfl <| BP.one rfl rfl rfl <| BP.one rfl rfl rfl <| BP.one rfl rfl rfl <| BP.one rfl rfl rfl <| BP.one rfl rfl rfl <| BP.one rfl rfl rfl <| BP.one rfl rfl rfl <| BP.one rfl rfl rfl <| BP.one rfl rfl rfl <| BP.one rfl rfl rfl <| BP.one rfl rfl rfl <| BP.one rfl rfl rfl <| BP.one rfl rfl rfl <| BP.one rfl rfl rfl <| BP.one rfl rfl rfl <| BP.one rfl rfl rfl <| BP.one rfl rfl rfl <| BP.one rfl rfl rfl <| BP.one rfl rfl rfl <| BP.one rfl rfl rfl <| BP.one rfl rfl rfl <| BP.one rfl rfl rfl <| BP.one rfl rfl rfl <| BP.one rfl rfl rfl <| BP.one rfl rfl rfl <| BP.one rfl rfl rfl <| BP.one rfl rfl rfl <| BP.one rfl rfl rfl <| BP.one rfl rfl rfl <| BP.one rfl rfl rfl <| BP.one rfl rfl rfl <| BP.one rfl rfl rfl <| BP.one rfl rfl rfl <| BP.one rfl rfl rfl <| BP.one rfl rfl rfl <| BP.one rfl rfl rfl <| BP.one rfl rfl rfl <| BP.one rfl rfl rfl <| BP.one rfl rfl rfl <| BP.one rfl rfl rfl <| BP.one rfl rfl rfl <| BP.one rfl rfl rfl <| BP.one rfl rfl rfl <| BP.one rfl rfl rfl <| BP.one rfl rfl rfl <| BP.one rfl rfl rfl <| BP.one rfl rfl rfl <| BP.one rfl rfl rfl <| BP.one rfl rfl rfl <| BP.one rfl rfl rfl <| BP.one rfl rfl rfl <| BP.one rfl rfl rfl <| BP.one rfl rfl rfl <| BP.one rfl rfl rfl <| BP.one rfl rfl rfl <| BP.one rfl rfl rfl <| BP.one rfl rfl rfl <| BP.one rfl rfl rfl <| BP.one rfl rfl rfl <| BP.one rfl rfl rfl <| BP.one rfl rfl rfl <| BP.one rfl rfl rfl <| BP.doneE (out := []) rfl) (fun b4 => ?_)
 refine L.toOwn (len := 64) qP (rows := ks.map wr) (sz := 1) (by rfl) rfl (by simp) ?_
 refine L.assign rfl rfl ?_
 refine L.nil ?_
 refine T.thenN (T.seq (T.region ?_))
 refine L.move rfl rfl ?_
 refine L.move rfl rfl ?_
 refine L.idxG (i := i) rfl Tryz.underlying211 sz163 rfl rfl (by first | rfl | omega | (simp; done)) qI ?_
 refine L.load rfl sc163 rfl qC ?_
 refine L.assign rfl rfl ?_
 refine L.nil ?_
 refine T.thenN (T.ret ?_)
 exact T.ret1 rfl rfl ⟨rfl, rfl, rfl⟩ qD qF
set_option maxHeartbeats 400000 in
theorem word_spec {l : List UInt8} (hl : 4 ≤ l.length) : Spec Tryz.prog 174 [S l] [] [] (fun v D' M' => v = W (wd (gd l 0) (gd l 1) (gd l 2) (gd l 3)) ∧ D' = [] ∧ M' = []) := by
 refine Spec.intro (n := 21) Tryz.func174 rfl rfl (by decide) (Nat.le_of_ble_eq_true rfl) rfl (fun _ => qA) (fun _ => qA) ?_
 intro σ D M
 refine T.seq (T.region ?_)
 refine L.assign rfl rfl ?_
 refine L.nil ?_
 refine T.thenN (T.seq ?_)
 refine T.regionQ qk qk ?_
 refine L.move rfl rfl ?_
 refine L.indexS (i := 0) rfl Tryz.underlying9 rfl rfl (by first | rfl | omega | (simp; done)) (gd_get (by omega)) ?_
 refine L.convYW rfl Tryz.underlying5 Tryz.underlying163 rfl ?_
 refine L.mulW (b := 16777216#32) rfl rfl rfl ?_
 refine L.move rfl rfl ?_
 refine L.indexS (i := 1) rfl Tryz.underlying9 rfl rfl (by first | rfl | omega | (simp; done)) (gd_get (by omega)) ?_
 refine L.convYW rfl Tryz.underlying5 Tryz.underlying163 rfl ?_
 refine L.mulW (b := 65536#32) rfl rfl rfl ?_
 refine L.addW rfl rfl rfl ?_
 refine L.move rfl rfl ?_
 refine L.indexS (i := 2) rfl Tryz.underlying9 rfl rfl (by first | rfl | omega | (simp; done)) (gd_get (by omega)) ?_
 refine L.convYW rfl Tryz.underlying5 Tryz.underlying163 rfl ?_
 refine L.mulW (b := 256#32) rfl rfl rfl ?_
 refine L.addW rfl rfl rfl ?_
 refine L.move rfl rfl ?_
 refine L.indexS (i := 3) rfl Tryz.underlying9 rfl rfl (by first | rfl | omega | (simp; done)) (gd_get (by omega)) ?_
 refine L.convYW rfl Tryz.underlying5 Tryz.underlying163 rfl ?_
 refine L.addW rfl rfl rfl ?_
 refine L.assign rfl rfl ?_
 refine L.nilQ ?_
 refine T.thenN (T.ret ?_)
 exact T.ret1 rfl rfl ⟨rfl, rfl, rfl⟩ qD qF
set_option maxHeartbeats 400000 in
theorem r1bytes_spec {x : W32}  : Spec Tryz.prog 92 [W x] [] [] (fun v D' M' => v = S (wb x) ∧ D' = [] ∧ M' = []) := by
 refine Spec.intro (n := 19) Tryz.func92 rfl rfl (by decide) (Nat.le_of_ble_eq_true rfl) rfl (fun _ => qA) (fun _ => qA) ?_
 intro σ D M
 refine T.seq (T.region ?_)
 refine L.assign rfl rfl ?_
 refine L.nil ?_
 refine T.thenN (T.seq (T.region ?_))
 refine L.move rfl rfl ?_
 refine L.divW (b := 16777216#32) rfl rfl rfl (by decide) ?_
 refine L.convWY rfl Tryz.underlying163 Tryz.underlying5 rfl ?_
 refine L.move rfl rfl ?_
 refine L.divW (b := 65536#32) rfl rfl rfl (by decide) ?_
 refine L.remW (b := 256#32) rfl rfl rfl (by decide) ?_
 refine L.convWY rfl Tryz.underlying163 Tryz.underlying5 rfl ?_
 refine L.move rfl rfl ?_
 refine L.divW (b := 256#32) rfl rfl rfl (by decide) ?_
 refine L.remW (b := 256#32) rfl rfl rfl (by decide) ?_
 refine L.convWY rfl Tryz.underlying163 Tryz.underlying5 rfl ?_
 refine L.move rfl rfl ?_
 refine L.remW (b := 256#32) rfl rfl rfl (by decide) ?_
 refine L.convWY rfl Tryz.underlying163 Tryz.underlying5 rfl ?_
 refine L.buildSlice rfl bs97 (by decide) (BP.one rfl rfl rfl <| BP.one rfl rfl rfl <| BP.one rfl rfl rfl <| BP.one rfl rfl rfl <| BP.doneE (out := []) rfl) (fun b17 => ?_)
 refine L.toOwn (len := 4) qP (rows := (wb x).map yr) (sz := 1) (by rw [← wb_eq]; rfl) rfl (by simp) ?_
 refine L.ownRsl qP ?_
 refine L.bytesStr rfl Tryz.underlying97 Tryz.underlying5 Tryz.underlying9 rfl qM ?_
 refine L.assign rfl rfl ?_
 refine L.nil ?_
 refine T.thenN (T.ret ?_)
 exact T.ret1 rfl rfl ⟨rfl, rfl, rfl⟩ qD qF
set_option maxHeartbeats 400000 in
theorem padded_spec {s : List UInt8} (hs : s.length ≤ 70368744177664) : Spec Tryz.prog 125 [S s] [] [] (fun v D' M' => v = S (s ++ padR s.length) ∧ D' = [] ∧ M' = []) := by
 refine Spec.intro (n := 34) Tryz.func125 rfl rfl (by decide) (Nat.le_of_ble_eq_true rfl) rfl (fun _ => qA) (fun _ => qA) ?_
 intro σ D M
 have hzn := zn_le (k := s.length % 64)
 have hz64 : zn (s.length % 64) ≤ 63 ∨ True := .inr trivial
 refine T.seq (T.region ?_)
 refine L.assign rfl rfl ?_
 refine L.nil ?_
 refine T.thenN (T.seq (T.region ?_))
 refine L.move rfl rfl ?_
 refine L.lenStr rfl Tryz.underlying9 rfl ?_
 refine L.assign rfl rfl ?_
 refine L.nil ?_
 refine T.thenN (T.seq (T.region ?_))
 refine L.move rfl rfl ?_
 refine L.addS rfl rfl rfl (by simp only [List.length_append, List.length_replicate, List.length_cons, List.length_nil, wb_len] at *; omega) ?_
 refine L.assign rfl rfl ?_
 refine L.nil ?_
 refine T.thenN (T.seq (T.seq (T.region ?_)))
 refine L.assign rfl rfl ?_
 refine L.nil ?_
 refine T.thenN (T.block ?_)
 refine T.known (t := 4) rfl (show S (s ++ [128]) = S (s ++ [128] ++ List.replicate 0 0) from by simp) ?_
 refine T.loop (fun K' D' M' μ => ∃ (j : Nat), (j ≤ zn (s.length % 64)) ∧ K' = [(5, .int .i64 j), (4, S (s ++ [128] ++ List.replicate (j) 0))] ∧ D' = [] ∧ M' = [] ∧ μ = zn (s.length % 64) - j) (.cons (t := 3) rfl <| SubK.nil _) (⟨0, Nat.zero_le _, rfl, rfl, rfl, rfl⟩) (.cons (t := 5) rfl <| .cons (t := 4) rfl <| SubK.nil _) qD qS ?_
 rintro K1 D1 M1 m1 ⟨j, hj, rfl, rfl, rfl, rfl⟩
 refine T.norm3 qA qA qA ?_
 have hjl : (s ++ [128] ++ List.replicate (j) 0).length = s.length + 1 + j := by simp only [List.length_append, List.length_replicate, List.length_singleton]
 have hz63 := zn_lt (k := s.length % 64) (Nat.mod_lt _ (by decide))
 refine T.seq (T.seq (T.region ?_))
 refine L.move rfl rfl ?_
 refine L.ltI rfl rfl rfl ?_
 refine L.move rfl rfl ?_
 refine L.part (t := 12) rfl (fun h1 => ?_) (fun h1 => ?_)
 ·try simp only [dq] at h1
  refine L.guardT (dj := 12) rfl rfl rfl ?_
  refine L.move rfl rfl ?_
  refine L.guardT (dj := 12) rfl rfl rfl ?_
  refine L.lenStr rfl Tryz.underlying9 rfl ?_
  refine L.guardT (dj := 12) rfl rfl rfl ?_
  refine L.remN rfl rfl rfl qI ?_
  refine L.guardT (dj := 12) rfl rfl rfl ?_
  refine L.neI rfl rfl rfl ?_
  refine L.pickT rfl rfl rfl ?_
  refine L.nil ?_
  refine T.thenN ?_
  refine T.cond rfl (fun h17 => ?_) (fun h17 => ?_)
  ·try simp only [dq] at h17
   have hjz : j + 1 ≤ zn (s.length % 64) := by have := zn_iff (k := s.length % 64) (Nat.mod_lt _ (by decide)) hj; omega
   refine T.skip (T.thenN (T.seq (T.block (T.region ?_))))
   refine L.move rfl rfl ?_
   refine L.addS rfl rfl rfl (by simp only [List.length_append, List.length_replicate, List.length_cons, List.length_nil, wb_len] at *; omega) ?_
   refine L.assign rfl rfl ?_
   refine L.nil ?_
   refine T.blkN (T.thenN (T.region ?_))
   refine L.move rfl rfl ?_
   refine L.addN rfl rfl rfl (by simp only [List.length_append, List.length_replicate, List.length_cons, List.length_nil, wb_len] at *; omega) ?_
   refine L.assign rfl rfl ?_
   refine L.nil ?_
   refine T.thenN ?_
   rw [show s ++ [128] ++ List.replicate j 0 ++ [0] = s ++ [128] ++ List.replicate (j + 1) 0 from by rw [List.append_assoc, List.replicate_succ']]
   exact T.back ⟨j + 1, hjz, rfl, rfl, rfl, rfl⟩ qI (.cons (t := 5) rfl <| .cons (t := 4) rfl <| SubK.nil _) (.cons (t := 3) rfl <| SubK.nil _) qD qD qF
  ·try simp only [dq] at h17
   obtain rfl : j = zn (s.length % 64) := (zn_iff (k := s.length % 64) (Nat.mod_lt _ (by decide)) hj).1 (by omega)
   refine T.exit (T.thenX (T.thenX (T.blkX (T.thenN (T.seq (T.region ?_))))))
   refine L.move rfl rfl ?_
   refine L.move rfl rfl ?_
   refine L.quoN rfl rfl rfl qI ?_
   refine L.convIW rfl Tryz.underlying3 Tryz.underlying163 rfl ?_
   rw [show BitVec.ofInt 32 ((s.length : Int) / 536870912) = BitVec.ofNat 32 (s.length / 536870912) from by rw [← BitVec.ofInt_natCast]; congr 1]
   refine L.callF rfl (evs.cons rfl <| evs.nil) qD qS (r1bytes_spec ) (by rintro u D1 M1 ⟨rfl, rfl, rfl⟩; exact ⟨rfl, _, qA, qF⟩) ?_
   refine L.addS rfl rfl rfl (by simp only [List.length_append, List.length_replicate, List.length_cons, List.length_nil, wb_len] at *; omega) ?_
   refine L.move rfl rfl ?_
   refine L.remN rfl rfl rfl qI ?_
   refine L.mulN rfl rfl rfl (by simp only [List.length_append, List.length_replicate, List.length_cons, List.length_nil, wb_len] at *; omega) ?_
   refine L.convIW rfl Tryz.underlying3 Tryz.underlying163 rfl ?_
   rw [show BitVec.ofInt 32 ((s.length : Int) % 536870912 * 8) = BitVec.ofNat 32 (s.length % 536870912 * 8) from by rw [← BitVec.ofInt_natCast]; congr 1]
   refine L.callF rfl (evs.cons rfl <| evs.nil) qD qS (r1bytes_spec ) (by rintro u D1 M1 ⟨rfl, rfl, rfl⟩; exact ⟨rfl, _, qA, qF⟩) ?_
   refine L.addS rfl rfl rfl (by simp only [List.length_append, List.length_replicate, List.length_cons, List.length_nil, wb_len] at *; omega) ?_
   refine L.assign rfl rfl ?_
   refine L.nil ?_
   refine T.thenN (T.ret ?_)
   exact T.ret1 rfl rfl ⟨congrArg S (by simp only [padR, List.append_assoc]), rfl, rfl⟩ qD qF
 ·try simp only [dq] at h1
  omega
set_option maxHeartbeats 400000 in
theorem sched_spec {b : List UInt8} (hb : b.length = 64) : Spec Tryz.prog 158 [S b] [] [] (fun v D' M' => ∃ (a1 : Option Addr) (c1 : Nat), v = .slice a1 64 c1 ∧ D' = [] ∧ M' = [own 1 163 a1 64 c1 ((spr b 64).map wr)]) := by
 refine Spec.intro (n := 68) Tryz.func158 rfl rfl (by decide) (Nat.le_of_ble_eq_true rfl) rfl (fun _ => qA) (fun _ => qA) ?_
 intro σ D M
 have hsl := spr_len b 64
 refine T.seq (T.region ?_)
 refine L.assign rfl rfl ?_
 refine L.nil ?_
 refine T.thenN (T.seq (T.region ?_))
 refine L.buildSlice rfl bs211 (by decide) (BP.doneE (out := []) rfl) (fun b8 => ?_)
 refine L.toOwn (len := 0) qP (rows := ([] : List W32).map wr) (sz := 1) (by rfl) rfl (by simp) ?_
 refine L.assign rfl rfl ?_
 refine L.nil ?_
 refine T.thenN (T.seq (T.seq (T.region ?_)))
 refine L.assign rfl rfl ?_
 refine L.nil ?_
 refine T.thenN (T.block ?_)
 refine T.loop (fun K' D' M' μ => ∃ (i : Nat) (a1 : Option Addr) (c1 : Nat), (i ≤ 16) ∧ K' = [(4, .int .i64 i), (3, .slice a1 i c1)] ∧ D' = [] ∧ M' = [own 1 163 a1 i c1 (((spr b 64).take i).map wr)] ∧ μ = 16 - i) (.cons (t := 0) rfl <| SubK.nil _) (⟨0, _, _, Nat.zero_le _, rfl, rfl, rfl, rfl⟩) (.cons (t := 4) rfl <| .cons (t := 3) rfl <| SubK.nil _) qD qS ?_
 rintro K1 D1 M1 m1 ⟨i, a1, c1, hi, rfl, rfl, rfl, rfl⟩
 refine T.norm3 qA qA qA ?_
 refine T.seq (T.seq (T.region ?_))
 refine L.move rfl rfl ?_
 refine L.ltI rfl rfl rfl ?_
 refine L.nil ?_
 refine T.thenN ?_
 refine T.cond rfl (fun h10 => ?_) (fun h10 => ?_)
 ·try simp only [dq] at h10
  refine T.skip (T.thenN (T.seq (T.block (T.region ?_))))
  refine L.move rfl rfl ?_
  refine L.move rfl rfl ?_
  refine L.move rfl rfl ?_
  refine L.mulN rfl rfl rfl (by omega) ?_
  refine L.sliceS (a := 4 * i) (b := _) rfl Tryz.underlying9 rfl ⟨_, (by first | rfl | (congr 2; omega))⟩ rfl qI qI ?_
  refine L.callF rfl (evs.cons rfl <| evs.nil) qD qS (word_spec (by simp; omega)) (by rintro u D1 M1 ⟨rfl, rfl, rfl⟩; exact ⟨rfl, _, qA, qF⟩) ?_
  rw [sch_word hb (by omega)]
  refine L.buildSlice rfl bs211 (by decide) (BP.one rfl rfl rfl <| BP.doneE (out := []) rfl) (fun b19 => ?_)
  refine L.append1 rfl Tryz.underlying211 el163 rfl rfl qP qM rfl qO1 qI qI (fun a20 c20 => ?_)
  refine L.assign rfl rfl ?_
  refine L.nil ?_
  refine T.blkN (T.thenN (T.region ?_))
  refine L.move rfl rfl ?_
  refine L.addN rfl rfl rfl (by omega) ?_
  refine L.assign rfl rfl ?_
  refine L.nil ?_
  refine T.thenN ?_
  refine T.ownEq a20 (((spr b 64).take (i + 1)).map wr) qP (by rw [take_gd (l := spr b 64) (k := i) (by omega), map_snoc]) ?_
  exact T.back ⟨i + 1, _, _, qT, rfl, rfl, rfl, rfl⟩ qI (.cons (t := 4) rfl <| .cons (t := 3) rfl <| SubK.nil _) (.cons (t := 0) rfl <| SubK.nil _) qD qD qF
 ·try simp only [dq] at h10
  obtain rfl : i = 16 := by omega
  refine T.exit (T.thenX (T.thenX (T.blkX (T.thenN (T.seq (T.seq (T.region ?_)))))))
  refine L.assign rfl rfl ?_
  refine L.nil ?_
  refine T.thenN (T.block ?_)
  refine T.loop (fun K' D' M' μ => ∃ (i : Nat) (a1 : Option Addr) (c1 : Nat), (16 ≤ i ∧ i ≤ 64) ∧ K' = [(5, .int .i64 i), (3, .slice a1 i c1)] ∧ D' = [] ∧ M' = [own 1 163 a1 i c1 (((spr b 64).take i).map wr)] ∧ μ = 64 - i) (SubK.nil _) (⟨16, _, _, by omega, rfl, rfl, rfl, rfl⟩) (.cons (t := 5) rfl <| .cons (t := 3) rfl <| SubK.nil _) qD qS ?_
  rintro K1 D1 M1 m1 ⟨i, a1, c1, ⟨hi, hi2⟩, rfl, rfl, rfl, rfl⟩
  refine T.norm3 qA qA qA ?_
  refine T.seq (T.seq (T.region ?_))
  refine L.move rfl rfl ?_
  refine L.ltI rfl rfl rfl ?_
  refine L.nil ?_
  refine T.thenN ?_
  refine T.cond rfl (fun h22 => ?_) (fun h22 => ?_)
  ·try simp only [dq] at h22
   refine T.ownNe qM (by omega) (fun bb oo ha => ?_)
   subst ha
   have g15 : ((spr b 64).take i)[i - 15]? = some (gd (spr b 64) (i - 15)) := take_get (by omega) (by omega)
   have g2 : ((spr b 64).take i)[i - 2]? = some (gd (spr b 64) (i - 2)) := take_get (by omega) (by omega)
   have g16 : ((spr b 64).take i)[i - 16]? = some (gd (spr b 64) (i - 16)) := take_get (by omega) (by omega)
   have g7 : ((spr b 64).take i)[i - 7]? = some (gd (spr b 64) (i - 7)) := take_get (by omega) (by omega)
   refine T.skip (T.thenN (T.seq (T.block (T.seq (T.region ?_)))))
   refine L.move rfl rfl ?_
   refine L.move rfl rfl ?_
   refine L.subN rfl rfl rfl (by omega) ?_
   refine L.idxG (i := i - 15) rfl Tryz.underlying211 sz163 rfl rfl (by first | rfl | omega | (simp; done)) qI ?_
   refine L.load rfl sc163 rfl qC ?_
   refine L.assign rfl rfl ?_
   refine L.nil ?_
   refine T.thenN (T.seq (T.region ?_))
   refine L.move rfl rfl ?_
   refine L.move rfl rfl ?_
   refine L.subN rfl rfl rfl (by omega) ?_
   refine L.idxG (i := i - 2) rfl Tryz.underlying211 sz163 rfl rfl (by first | rfl | omega | (simp; done)) qI ?_
   refine L.load rfl sc163 rfl qC ?_
   refine L.assign rfl rfl ?_
   refine L.nil ?_
   refine T.thenN ?_
   refine T.regionA (clsL [1, 1, 1, 1, 1, 0, 1, 0, 1, 0, 1, 1, 1, 1, 1, 1, 1, 1, 1, 0, 1, 1, 0, 1, 0, 1, 1, 1, 1, 1, 2, 2, 1]) qk ?_
   refine A.takeP (i := 0) rfl rfl rfl rfl qk qk qk rfl qD ?_
   refine L.move rfl rfl ?_
   refine A.took ?_
   refine A.takeP (i := 1) rfl rfl rfl rfl qk qk qk rfl qD ?_
   refine L.move rfl rfl ?_
   refine A.took ?_
   refine A.takeP (i := 2) rfl rfl rfl rfl qk qk qk rfl qD ?_
   refine L.move rfl rfl ?_
   refine A.took ?_
   refine A.takeP (i := 3) rfl rfl rfl rfl qk qk qk rfl qD ?_
   refine L.subN rfl rfl rfl (by omega) ?_
   refine A.took ?_
   refine A.takeP (i := 4) rfl rfl rfl rfl qk qk qk rfl qD ?_
   refine L.idxG (i := i - 16) rfl Tryz.underlying211 sz163 rfl rfl (by first | rfl | omega | (simp; done)) qI ?_
   refine A.took ?_
   refine A.takeP (i := 6) rfl rfl rfl rfl qk qk qk rfl qD ?_
   refine L.move rfl rfl ?_
   refine A.took ?_
   refine A.takeP (i := 8) rfl rfl rfl rfl qk qk qk rfl qD ?_
   refine L.move rfl rfl ?_
   refine A.took ?_
   refine A.takeP (i := 11) rfl rfl rfl rfl qk qk qk rfl qD ?_
   refine L.move rfl rfl ?_
   refine A.took ?_
   refine A.takeP (i := 12) rfl rfl rfl rfl qk qk qk rfl qD ?_
   refine L.divW (b := 8#32) rfl rfl rfl (by decide) ?_
   refine A.took ?_
   refine A.takeP (i := 15) rfl rfl rfl rfl qk qk qk rfl qD ?_
   refine L.move rfl rfl ?_
   refine A.took ?_
   refine A.takeP (i := 16) rfl rfl rfl rfl qk qk qk rfl qD ?_
   refine L.move rfl rfl ?_
   refine A.took ?_
   refine A.takeP (i := 17) rfl rfl rfl rfl qk qk qk rfl qD ?_
   refine L.subN rfl rfl rfl (by omega) ?_
   refine A.took ?_
   refine A.takeP (i := 18) rfl rfl rfl rfl qk qk qk rfl qD ?_
   refine L.idxG (i := i - 7) rfl Tryz.underlying211 sz163 rfl rfl (by first | rfl | omega | (simp; done)) qI ?_
   refine A.took ?_
   refine A.takeP (i := 21) rfl rfl rfl rfl qk qk qk rfl qD ?_
   refine L.move rfl rfl ?_
   refine A.took ?_
   refine A.takeP (i := 23) rfl rfl rfl rfl qk qk qk rfl qD ?_
   refine L.move rfl rfl ?_
   refine A.took ?_
   refine A.takeP (i := 26) rfl rfl rfl rfl qk qk qk rfl qD ?_
   refine L.move rfl rfl ?_
   refine A.took ?_
   refine A.takeP (i := 27) rfl rfl rfl rfl qk qk qk rfl qD ?_
   refine L.divW (b := 1024#32) rfl rfl rfl (by decide) ?_
   refine A.took ?_
   refine A.take (i := 5) rfl rfl rfl rfl qk qk qk qk rfl qD qF ?_
   refine L.load rfl sc163 rfl qC ?_
   refine A.took ?_
   refine A.take (i := 19) rfl rfl rfl rfl qk qk qk qk rfl qD qF ?_
   refine L.load rfl sc163 rfl qC ?_
   refine A.took ?_
   refine A.branch (is := [7]) qk (by decide) (Each.cons rfl ?_ <| Each.nil) 
   refine L.callF rfl (evs.cons rfl <| evs.cons rfl <| evs.nil) qD qS (ror_spec qT qT) (by rintro u D1 M1 ⟨rfl, rfl, rfl⟩; exact ⟨rfl, _, qA, qF⟩) ?_
   refine A.back rfl qD qF ?_
   refine A.branch (is := [9]) qk (by decide) (Each.cons rfl ?_ <| Each.nil) 
   refine L.callF rfl (evs.cons rfl <| evs.cons rfl <| evs.nil) qD qS (ror_spec qT qT) (by rintro u D1 M1 ⟨rfl, rfl, rfl⟩; exact ⟨rfl, _, qA, qF⟩) ?_
   refine A.back rfl qD qF ?_
   refine A.takeP (i := 10) rfl rfl rfl rfl qk qk qk rfl qD ?_
   refine L.xorW rfl rfl rfl ?_
   refine A.took ?_
   refine A.takeP (i := 13) rfl rfl rfl rfl qk qk qk rfl qD ?_
   refine L.xorW rfl rfl rfl ?_
   refine A.took ?_
   refine A.takeP (i := 14) rfl rfl rfl rfl qk qk qk rfl qD ?_
   refine L.addW rfl rfl rfl ?_
   refine A.took ?_
   refine A.takeP (i := 20) rfl rfl rfl rfl qk qk qk rfl qD ?_
   refine L.addW rfl rfl rfl ?_
   refine A.took ?_
   refine A.branch (is := [22]) qk (by decide) (Each.cons rfl ?_ <| Each.nil) 
   refine L.callF rfl (evs.cons rfl <| evs.cons rfl <| evs.nil) qD qS (ror_spec qT qT) (by rintro u D1 M1 ⟨rfl, rfl, rfl⟩; exact ⟨rfl, _, qA, qF⟩) ?_
   refine A.back rfl qD qF ?_
   refine A.branch (is := [24]) qk (by decide) (Each.cons rfl ?_ <| Each.nil) 
   refine L.callF rfl (evs.cons rfl <| evs.cons rfl <| evs.nil) qD qS (ror_spec qT qT) (by rintro u D1 M1 ⟨rfl, rfl, rfl⟩; exact ⟨rfl, _, qA, qF⟩) ?_
   refine A.back rfl qD qF ?_
   refine A.takeP (i := 25) rfl rfl rfl rfl qk qk qk rfl qD ?_
   refine L.xorW rfl rfl rfl ?_
   refine A.took ?_
   refine A.takeP (i := 28) rfl rfl rfl rfl qk qk qk rfl qD ?_
   refine L.xorW rfl rfl rfl ?_
   refine A.took ?_
   refine A.takeP (i := 29) rfl rfl rfl rfl qk qk qk rfl qD ?_
   refine L.addW rfl rfl rfl ?_
   refine A.took ?_
   refine A.branch (is := [30]) qk (by decide) (Each.cons rfl ?_ <| Each.nil) 
   refine L.buildSlice rfl bs211 (by decide) (BP.one rfl rfl rfl <| BP.doneE (out := []) rfl) (fun b65 => ?_)
   refine A.backT rfl qD ?_
   refine A.branch (is := [31]) qk (by decide) (Each.cons rfl ?_ <| Each.nil) 
   refine L.append1 rfl Tryz.underlying211 el163 rfl rfl qP qM rfl qO1 qI qI (fun a66 c66 => ?_)
   refine A.backT rfl qD ?_
   refine A.takeP (i := 32) rfl rfl rfl rfl qk qk qk rfl qD ?_
   refine L.assign rfl rfl ?_
   refine A.took ?_
   refine A.done qk ?_
   refine T.blkN (T.thenN (T.region ?_))
   refine L.move rfl rfl ?_
   refine L.addN rfl rfl rfl (by omega) ?_
   refine L.assign rfl rfl ?_
   refine L.nil ?_
   refine T.thenN ?_
   refine T.ownEq a66 (((spr b 64).take (i + 1)).map wr) qP (by rw [take_gd (l := spr b 64) (k := i) (by omega), map_snoc, spr_at (k := i) (by omega), if_neg (show ¬ i < 16 by omega), ← nx_eq]) ?_
   exact T.back ⟨i + 1, _, _, qT, rfl, rfl, rfl, rfl⟩ qI (.cons (t := 5) rfl <| .cons (t := 3) rfl <| SubK.nil _) (SubK.nil _) qD qD qF
  ·try simp only [dq] at h22
   obtain rfl : i = 64 := by omega
   refine T.ownEq _ ((spr b 64).map wr) qP (by rw [List.take_of_length_le (by omega)]) ?_
   refine T.exit (T.thenX (T.thenX (T.blkX (T.thenN (T.seq (T.region ?_))))))
   refine L.move rfl rfl ?_
   refine L.assign rfl rfl ?_
   refine L.nil ?_
   refine T.thenN (T.ret ?_)
   exact T.ret1 rfl rfl ⟨_, _, rfl, rfl, rfl⟩ qD qF
set_option maxHeartbeats 400000 in
theorem mixed_spec {a : Option Addr} {cap : Nat} {h : List W32} {b : List UInt8} (hl : h.length = 8) (hb : b.length = 64) : Spec Tryz.prog 126 [.slice a 8 cap, S b] [rsl 1 a 8 cap (h.map wr)] [] (fun v D' M' => ∃ (a1 : Option Addr) (c1 : Nat), v = .slice a1 8 c1 ∧ D' = [] ∧ M' = [own 1 163 a1 8 c1 ((blockF h b).map wr)]) := by
 refine Spec.intro (n := 131) Tryz.func126 rfl rfl (by decide) (Nat.le_of_ble_eq_true rfl) rfl (fun _ => qA) (fun _ => qA) ?_
 intro σ D M
 have hsl := spr_len b 64
 have hkl : ks.length = 64 := rfl
 have hbl : (blockF h b).length = 8 := by rw [blockF_len]; exact hl
 refine T.rslAddr qM (fun e => by have := congrArg List.length e; simp [hl] at this) (fun b0 o0 ha => ?_)
 subst ha
 refine T.seq (T.region ?_)
 refine L.assign rfl rfl ?_
 refine L.nil ?_
 refine T.thenN (T.seq (T.region ?_))
 refine L.move rfl rfl ?_
 refine L.call rfl (evs.cons rfl <| evs.nil) qD qS (sched_spec hb) ?_
 rintro _ _ _ ⟨wa, wc, rfl, rfl, rfl⟩
 refine L.norm qA qA ?_
 refine L.assign rfl rfl ?_
 refine L.nil ?_
 refine T.ownNe qM (by omega) (fun wb_ wo ha => ?_)
 subst ha
 refine T.thenN (T.seq (T.region ?_))
 refine L.buildSlice rfl bs211 (by decide) (BP.doneE (out := []) rfl) (fun b16 => ?_)
 refine L.toOwn (len := 0) qP (rows := ([] : List W32).map wr) (sz := 1) (by rfl) rfl (by simp) ?_
 refine L.move rfl rfl ?_
 refine L.appendR rfl Tryz.underlying211 Tryz.underlying211 el163 rfl rfl qP (rd_D qM) One.wr qI qI (fun a18 c18 => ?_)
 refine L.assign rfl rfl ?_
 refine L.nil ?_
 simp only [Nat.zero_add]
 refine T.ownEq _ ((rnds h (spr b 64) 0).map wr) qP (by simp [rnds]) ?_
 refine T.thenN (T.seq (T.seq (T.region ?_)))
 refine L.assign rfl rfl ?_
 refine L.nil ?_
 refine T.thenN (T.block ?_)
 refine T.loop (fun K' D' M' μ => ∃ (i : Nat) (a1 : Option Addr) (c1 : Nat), (i ≤ 64) ∧ K' = [(7, .int .i64 i), (6, .slice a1 8 c1)] ∧ D' = [] ∧ M' = [own 1 163 a1 8 c1 ((rnds h (spr b 64) i).map wr)] ∧ μ = 64 - i) (.cons (t := 0) rfl <| .cons (t := 5) rfl <| SubK.nil _) (⟨0, _, _, Nat.zero_le _, rfl, rfl, rfl, rfl⟩) (.cons (t := 7) rfl <| .cons (t := 6) rfl <| SubK.nil _) qD qS ?_
 rintro K1 D1 M1 m1 ⟨i, a1, c1, hi, rfl, rfl, rfl, rfl⟩
 refine T.norm3 qA qA qA ?_
 refine T.seq (T.seq (T.region ?_))
 refine L.move rfl rfl ?_
 refine L.ltI rfl rfl rfl ?_
 refine L.nil ?_
 refine T.thenN ?_
 refine T.cond rfl (fun h20 => ?_) (fun h20 => ?_)
 ·try simp only [dq] at h20
  refine T.ownNe (a := a1) qM (by omega) (fun vb vo ha => ?_)
  subst ha
  obtain ⟨v0, v1, v2, v3, v4, v5, v6, v7, hv⟩ := len8 (rnds_len (ws := spr b 64) hl i)
  have g0 : (rnds h (spr b 64) i)[0]? = some v0 := by rw [hv]; rfl
  have g1 : (rnds h (spr b 64) i)[1]? = some v1 := by rw [hv]; rfl
  have g2 : (rnds h (spr b 64) i)[2]? = some v2 := by rw [hv]; rfl
  have g3 : (rnds h (spr b 64) i)[3]? = some v3 := by rw [hv]; rfl
  have g4 : (rnds h (spr b 64) i)[4]? = some v4 := by rw [hv]; rfl
  have g5 : (rnds h (spr b 64) i)[5]? = some v5 := by rw [hv]; rfl
  have g6 : (rnds h (spr b 64) i)[6]? = some v6 := by rw [hv]; rfl
  have g7 : (rnds h (spr b 64) i)[7]? = some v7 := by rw [hv]; rfl
  have gw : (spr b 64)[i]? = some (gd (spr b 64) i) := gd_get (by omega)
  refine T.skip (T.thenN (T.seq (T.block (T.seq (T.region ?_)))))
  refine L.move rfl rfl ?_
  refine L.idxG (i := 0) rfl Tryz.underlying211 sz163 rfl rfl (by first | rfl | omega | (simp; done)) qI ?_
  refine L.load rfl sc163 rfl qC ?_
  refine L.assign rfl rfl ?_
  refine L.nil ?_
  refine T.thenN (T.seq (T.region ?_))
  refine L.move rfl rfl ?_
  refine L.idxG (i := 4) rfl Tryz.underlying211 sz163 rfl rfl (by first | rfl | omega | (simp; done)) qI ?_
  refine L.load rfl sc163 rfl qC ?_
  refine L.assign rfl rfl ?_
  refine L.nil ?_
  refine T.thenN (T.seq ?_)
  refine T.regionQ qk qk ?_
  refine L.move rfl rfl ?_
  refine L.idxG (i := 7) rfl Tryz.underlying211 sz163 rfl rfl (by first | rfl | omega | (simp; done)) qI ?_
  refine L.load rfl sc163 rfl qC ?_
  refine L.move rfl rfl ?_
  refine L.callF rfl (evs.cons rfl <| evs.cons rfl <| evs.nil) qD qS (ror_spec qT qT) (by rintro u D1 M1 ⟨rfl, rfl, rfl⟩; exact ⟨rfl, _, qA, qF⟩) ?_
  refine L.move rfl rfl ?_
  refine L.callF rfl (evs.cons rfl <| evs.cons rfl <| evs.nil) qD qS (ror_spec qT qT) (by rintro u D1 M1 ⟨rfl, rfl, rfl⟩; exact ⟨rfl, _, qA, qF⟩) ?_
  refine L.xorW rfl rfl rfl ?_
  refine L.move rfl rfl ?_
  refine L.callF rfl (evs.cons rfl <| evs.cons rfl <| evs.nil) qD qS (ror_spec qT qT) (by rintro u D1 M1 ⟨rfl, rfl, rfl⟩; exact ⟨rfl, _, qA, qF⟩) ?_
  refine L.xorW rfl rfl rfl ?_
  refine L.addW rfl rfl rfl ?_
  refine L.move rfl rfl ?_
  refine L.move rfl rfl ?_
  refine L.idxG (i := 5) rfl Tryz.underlying211 sz163 rfl rfl (by first | rfl | omega | (simp; done)) qI ?_
  refine L.load rfl sc163 rfl qC ?_
  refine L.andW rfl rfl rfl ?_
  refine L.move rfl rfl ?_
  refine L.notW rfl rfl ?_
  refine L.move rfl rfl ?_
  refine L.idxG (i := 6) rfl Tryz.underlying211 sz163 rfl rfl (by first | rfl | omega | (simp; done)) qI ?_
  refine L.load rfl sc163 rfl qC ?_
  refine L.andW rfl rfl rfl ?_
  refine L.xorW rfl rfl rfl ?_
  refine L.addW rfl rfl rfl ?_
  refine L.move rfl rfl ?_
  refine L.callF rfl (evs.cons rfl <| evs.nil) qD qS (key_spec qT) (by rintro u D1 M1 ⟨rfl, rfl, rfl⟩; exact ⟨rfl, _, qA, qF⟩) ?_
  refine L.addW rfl rfl rfl ?_
  refine L.move rfl rfl ?_
  refine L.move rfl rfl ?_
  refine L.idxG (i := i) rfl Tryz.underlying211 sz163 rfl rfl (by first | rfl | omega | (simp; done)) qI ?_
  refine L.load rfl sc163 rfl qC ?_
  refine L.addW rfl rfl rfl ?_
  rw [t_eq]
  refine L.assign rfl rfl ?_
  refine L.nilQ ?_
  refine T.thenN (T.seq ?_)
  refine T.regionQ qk qk ?_
  refine L.move rfl rfl ?_
  refine L.callF rfl (evs.cons rfl <| evs.cons rfl <| evs.nil) qD qS (ror_spec qT qT) (by rintro u D1 M1 ⟨rfl, rfl, rfl⟩; exact ⟨rfl, _, qA, qF⟩) ?_
  refine L.move rfl rfl ?_
  refine L.callF rfl (evs.cons rfl <| evs.cons rfl <| evs.nil) qD qS (ror_spec qT qT) (by rintro u D1 M1 ⟨rfl, rfl, rfl⟩; exact ⟨rfl, _, qA, qF⟩) ?_
  refine L.xorW rfl rfl rfl ?_
  refine L.move rfl rfl ?_
  refine L.callF rfl (evs.cons rfl <| evs.cons rfl <| evs.nil) qD qS (ror_spec qT qT) (by rintro u D1 M1 ⟨rfl, rfl, rfl⟩; exact ⟨rfl, _, qA, qF⟩) ?_
  refine L.xorW rfl rfl rfl ?_
  refine L.move rfl rfl ?_
  refine L.move rfl rfl ?_
  refine L.idxG (i := 1) rfl Tryz.underlying211 sz163 rfl rfl (by first | rfl | omega | (simp; done)) qI ?_
  refine L.load rfl sc163 rfl qC ?_
  refine L.andW rfl rfl rfl ?_
  refine L.move rfl rfl ?_
  refine L.move rfl rfl ?_
  refine L.idxG (i := 2) rfl Tryz.underlying211 sz163 rfl rfl (by first | rfl | omega | (simp; done)) qI ?_
  refine L.load rfl sc163 rfl qC ?_
  refine L.andW rfl rfl rfl ?_
  refine L.xorW rfl rfl rfl ?_
  refine L.move rfl rfl ?_
  refine L.idxG (i := 1) rfl Tryz.underlying211 sz163 rfl rfl (by first | rfl | omega | (simp; done)) qI ?_
  refine L.load rfl sc163 rfl qC ?_
  refine L.move rfl rfl ?_
  refine L.idxG (i := 2) rfl Tryz.underlying211 sz163 rfl rfl (by first | rfl | omega | (simp; done)) qI ?_
  refine L.load rfl sc163 rfl qC ?_
  refine L.andW rfl rfl rfl ?_
  refine L.xorW rfl rfl rfl ?_
  refine L.addW rfl rfl rfl ?_
  rw [maj_eq]
  refine L.assign rfl rfl ?_
  refine L.nilQ ?_
  refine T.thenN ?_
  refine T.regionA (clsL [1, 1, 1, 1, 1, 1, 0, 1, 1, 0, 1, 1, 0, 1, 1, 1, 1, 1, 0, 1, 1, 0, 2, 1]) qk ?_
  refine A.takeP (i := 0) rfl rfl rfl rfl qk qk qk rfl qD ?_
  refine L.move rfl rfl ?_
  refine A.took ?_
  refine A.takeP (i := 1) rfl rfl rfl rfl qk qk qk rfl qD ?_
  refine L.move rfl rfl ?_
  refine A.took ?_
  refine A.takeP (i := 2) rfl rfl rfl rfl qk qk qk rfl qD ?_
  refine L.addW rfl rfl rfl ?_
  refine A.took ?_
  refine A.takeP (i := 3) rfl rfl rfl rfl qk qk qk rfl qD ?_
  refine L.move rfl rfl ?_
  refine A.took ?_
  refine A.takeP (i := 4) rfl rfl rfl rfl qk qk qk rfl qD ?_
  refine L.move rfl rfl ?_
  refine A.took ?_
  refine A.takeP (i := 5) rfl rfl rfl rfl qk qk qk rfl qD ?_
  refine L.idxG (i := 1) rfl Tryz.underlying211 sz163 rfl rfl (by first | rfl | omega | (simp; done)) qI ?_
  refine A.took ?_
  refine A.takeP (i := 7) rfl rfl rfl rfl qk qk qk rfl qD ?_
  refine L.move rfl rfl ?_
  refine A.took ?_
  refine A.takeP (i := 8) rfl rfl rfl rfl qk qk qk rfl qD ?_
  refine L.idxG (i := 2) rfl Tryz.underlying211 sz163 rfl rfl (by first | rfl | omega | (simp; done)) qI ?_
  refine A.took ?_
  refine A.takeP (i := 10) rfl rfl rfl rfl qk qk qk rfl qD ?_
  refine L.move rfl rfl ?_
  refine A.took ?_
  refine A.takeP (i := 11) rfl rfl rfl rfl qk qk qk rfl qD ?_
  refine L.idxG (i := 3) rfl Tryz.underlying211 sz163 rfl rfl (by first | rfl | omega | (simp; done)) qI ?_
  refine A.took ?_
  refine A.takeP (i := 13) rfl rfl rfl rfl qk qk qk rfl qD ?_
  refine L.move rfl rfl ?_
  refine A.took ?_
  refine A.takeP (i := 15) rfl rfl rfl rfl qk qk qk rfl qD ?_
  refine L.move rfl rfl ?_
  refine A.took ?_
  refine A.takeP (i := 16) rfl rfl rfl rfl qk qk qk rfl qD ?_
  refine L.move rfl rfl ?_
  refine A.took ?_
  refine A.takeP (i := 17) rfl rfl rfl rfl qk qk qk rfl qD ?_
  refine L.idxG (i := 5) rfl Tryz.underlying211 sz163 rfl rfl (by first | rfl | omega | (simp; done)) qI ?_
  refine A.took ?_
  refine A.takeP (i := 19) rfl rfl rfl rfl qk qk qk rfl qD ?_
  refine L.move rfl rfl ?_
  refine A.took ?_
  refine A.takeP (i := 20) rfl rfl rfl rfl qk qk qk rfl qD ?_
  refine L.idxG (i := 6) rfl Tryz.underlying211 sz163 rfl rfl (by first | rfl | omega | (simp; done)) qI ?_
  refine A.took ?_
  refine A.take (i := 6) rfl rfl rfl rfl qk qk qk qk rfl qD qF ?_
  refine L.load rfl sc163 rfl qC ?_
  refine A.took ?_
  refine A.take (i := 9) rfl rfl rfl rfl qk qk qk qk rfl qD qF ?_
  refine L.load rfl sc163 rfl qC ?_
  refine A.took ?_
  refine A.take (i := 12) rfl rfl rfl rfl qk qk qk qk rfl qD qF ?_
  refine L.load rfl sc163 rfl qC ?_
  refine A.took ?_
  refine A.takeP (i := 14) rfl rfl rfl rfl qk qk qk rfl qD ?_
  refine L.addW rfl rfl rfl ?_
  refine A.took ?_
  refine A.take (i := 18) rfl rfl rfl rfl qk qk qk qk rfl qD qF ?_
  refine L.load rfl sc163 rfl qC ?_
  refine A.took ?_
  refine A.take (i := 21) rfl rfl rfl rfl qk qk qk qk rfl qD qF ?_
  refine L.load rfl sc163 rfl qC ?_
  refine A.took ?_
  refine A.branch (is := [22]) qk (by decide) (Each.cons rfl ?_ <| Each.nil) 
  refine L.buildSlice rfl bs211 (by decide) (BP.one rfl rfl rfl <| BP.one rfl rfl rfl <| BP.one rfl rfl rfl <| BP.one rfl rfl rfl <| BP.one rfl rfl rfl <| BP.one rfl rfl rfl <| BP.one rfl rfl rfl <| BP.one rfl rfl rfl <| BP.doneE (out := []) rfl) (fun b112 => ?_)
  refine A.backT rfl qD ?_
  refine A.takeP (i := 23) rfl rfl rfl rfl qk qk qk rfl qD ?_
  refine L.assign rfl rfl ?_
  refine A.took ?_
  refine A.done qk ?_
  refine T.toOwn (len := 8) qP (rows := (rnds h (spr b 64) (i + 1)).map wr) (sz := 1) (rnds_step hv) (by simp [rnds_len hl]) (by simp) ?_
  refine T.blkN (T.thenN (T.region ?_))
  refine L.move rfl rfl ?_
  refine L.addN rfl rfl rfl (by omega) ?_
  refine L.assign rfl rfl ?_
  refine L.nil ?_
  refine T.thenN ?_
  exact T.back ⟨i + 1, _, _, qT, rfl, rfl, rfl, rfl⟩ qI (.cons (t := 7) rfl <| .cons (t := 6) rfl <| SubK.nil _) (.cons (t := 0) rfl <| .cons (t := 5) rfl <| SubK.nil _) qD qD qF
 ·try simp only [dq] at h20
  obtain rfl : i = 64 := by omega
  refine T.exit (T.thenX (T.thenX (T.blkX (T.thenN (T.seq (T.region ?_))))))
  refine L.buildSlice rfl bs211 (by decide) (BP.doneE (out := []) rfl) (fun b113 => ?_)
  refine L.toOwn (len := 0) qP (rows := ([] : List W32).map wr) (sz := 1) (by rfl) rfl (by simp) ?_
  refine L.assign rfl rfl ?_
  refine L.nil ?_
  refine T.thenN (T.seq (T.seq (T.region ?_)))
  refine L.assign rfl rfl ?_
  refine L.nil ?_
  refine T.thenN (T.block ?_)
  refine T.ownNe (a := a1) qM (by omega) (fun vb vo ha => ?_)
  subst ha
  refine T.loop (fun K' D' M' μ => ∃ (i : Nat) (a2 : Option Addr) (c2 : Nat), (i ≤ 8) ∧ K' = [(13, .int .i64 i), (12, .slice a2 i c2)] ∧ D' = [] ∧ M' = [own 1 163 a2 i c2 (((blockF h b).take i).map wr)] ∧ μ = 8 - i) (.cons (t := 0) rfl <| .cons (t := 6) rfl <| SubK.nil _) (⟨0, _, _, Nat.zero_le _, rfl, rfl, rfl, rfl⟩) (.cons (t := 13) rfl <| .cons (t := 12) rfl <| SubK.nil _) qD qS ?_
  rintro K1 D1 M1 m1 ⟨i, a2, c2, hi, rfl, rfl, rfl, rfl⟩
  refine T.norm3 qA qA qA ?_
  refine T.seq (T.seq (T.region ?_))
  refine L.move rfl rfl ?_
  refine L.ltI rfl rfl rfl ?_
  refine L.nil ?_
  refine T.thenN ?_
  refine T.cond rfl (fun h115 => ?_) (fun h115 => ?_)
  ·try simp only [dq] at h115
   have gh : h[i]? = some (gd h i) := gd_get (by omega)
   have gr : (rnds h (spr b 64) 64)[i]? = some (gd (rnds h (spr b 64) 64) i) := gd_get (by rw [rnds_len hl]; omega)
   refine T.skip (T.thenN (T.seq (T.block ?_)))
   refine T.regionA (clsL [1, 1, 1, 1, 0, 1, 1, 1, 0, 1, 2, 2, 1]) qk ?_
   refine A.takeP (i := 0) rfl rfl rfl rfl qk qk qk rfl qD ?_
   refine L.move rfl rfl ?_
   refine A.took ?_
   refine A.takeP (i := 1) rfl rfl rfl rfl qk qk qk rfl qD ?_
   refine L.move rfl rfl ?_
   refine A.took ?_
   refine A.takeP (i := 2) rfl rfl rfl rfl qk qk qk rfl qD ?_
   refine L.move rfl rfl ?_
   refine A.took ?_
   refine A.takeP (i := 3) rfl rfl rfl rfl qk qk qk rfl qD ?_
   refine L.idxG (i := i) rfl Tryz.underlying211 sz163 rfl rfl (by first | rfl | omega | (simp; done)) qI ?_
   refine A.took ?_
   refine A.takeP (i := 5) rfl rfl rfl rfl qk qk qk rfl qD ?_
   refine L.move rfl rfl ?_
   refine A.took ?_
   refine A.takeP (i := 6) rfl rfl rfl rfl qk qk qk rfl qD ?_
   refine L.move rfl rfl ?_
   refine A.took ?_
   refine A.takeP (i := 7) rfl rfl rfl rfl qk qk qk rfl qD ?_
   refine L.idxG (i := i) rfl Tryz.underlying211 sz163 rfl rfl (by first | rfl | omega | (simp; done)) qI ?_
   refine A.took ?_
   refine A.take (i := 4) rfl rfl rfl rfl qk qk qk qk rfl qD qF ?_
   refine L.load rfl sc163 rfl qC ?_
   refine A.took ?_
   refine A.take (i := 8) rfl rfl rfl rfl qk qk qk qk rfl qD qF ?_
   refine L.load rfl sc163 rfl qC ?_
   refine A.took ?_
   refine A.takeP (i := 9) rfl rfl rfl rfl qk qk qk rfl qD ?_
   refine L.addW rfl rfl rfl ?_
   refine A.took ?_
   refine A.branch (is := [10]) qk (by decide) (Each.cons rfl ?_ <| Each.nil) 
   refine L.buildSlice rfl bs211 (by decide) (BP.one rfl rfl rfl <| BP.doneE (out := []) rfl) (fun b128 => ?_)
   refine A.backT rfl qD ?_
   refine A.branch (is := [11]) qk (by decide) (Each.cons rfl ?_ <| Each.nil) 
   refine L.append1 rfl Tryz.underlying211 el163 rfl rfl qP qM rfl qO1 qI qI (fun a129 c129 => ?_)
   refine A.backT rfl qD ?_
   refine A.takeP (i := 12) rfl rfl rfl rfl qk qk qk rfl qD ?_
   refine L.assign rfl rfl ?_
   refine A.took ?_
   refine A.done qk ?_
   refine T.blkN (T.thenN (T.region ?_))
   refine L.move rfl rfl ?_
   refine L.addN rfl rfl rfl (by omega) ?_
   refine L.assign rfl rfl ?_
   refine L.nil ?_
   refine T.thenN ?_
   refine T.ownEq a129 (((blockF h b).take (i + 1)).map wr) qP (by rw [take_gd (l := blockF h b) (k := i) (by omega), map_snoc, blockF_gd (j := i) hl (by omega)]) ?_
   exact T.back ⟨i + 1, _, _, qT, rfl, rfl, rfl, rfl⟩ qI (.cons (t := 13) rfl <| .cons (t := 12) rfl <| SubK.nil _) (.cons (t := 0) rfl <| .cons (t := 6) rfl <| SubK.nil _) qD qD qF
  ·try simp only [dq] at h115
   obtain rfl : i = 8 := by omega
   refine T.ownEq a2 ((blockF h b).map wr) qP (by rw [List.take_of_length_le (by omega)]) ?_
   refine T.exit (T.thenX (T.thenX (T.blkX (T.thenN (T.seq (T.region ?_))))))
   refine L.move rfl rfl ?_
   refine L.assign rfl rfl ?_
   refine L.nil ?_
   refine T.thenN (T.ret ?_)
   exact T.ret1 rfl rfl ⟨_, _, rfl, rfl, rfl⟩ qD qF
set_option maxHeartbeats 400000 in
theorem rof_spec {m : List UInt8} (hm : m.length ≤ 70368744177664) : Spec Tryz.prog 91 [S m] [] [] (fun v D' M' => v = S (digest m) ∧ D' = [] ∧ M' = []) := by
 refine Spec.intro (n := 37) Tryz.func91 rfl rfl (by decide) (Nat.le_of_ble_eq_true rfl) rfl (fun _ => qA) (fun _ => qA) ?_
 intro σ D M
 obtain ⟨al, hal⟩ : ∃ al, al = m ++ padR m.length := ⟨_, rfl⟩
 have hal64 : al.length % 64 = 0 := by rw [hal, List.length_append]; exact padR_len
 have hall : al.length ≤ 70368744177664 + 200 := by rw [hal, List.length_append]; have := padR_le m.length; omega
 refine T.seq (T.region ?_)
 refine L.assign rfl rfl ?_
 refine L.nil ?_
 refine T.thenN (T.seq (T.region ?_))
 refine L.move rfl rfl ?_
 refine L.callF rfl (evs.cons rfl <| evs.nil) qD qS (padded_spec hm) (by rintro u D1 M1 ⟨rfl, rfl, rfl⟩; exact ⟨rfl, _, qA, qF⟩) ?_
 rw [← hal]
 refine L.assign rfl rfl ?_
 refine L.nil ?_
 refine T.thenN (T.seq (T.region ?_))
 refine L.buildSlice rfl bs211 (by decide) (BP.one rfl rfl rfl <| BP.one rfl rfl rfl <| BP.one rfl rfl rfl <| BP.one rfl rfl rfl <| BP.one rfl rfl rfl <| BP.one rfl rfl rfl <| BP.one rfl rfl rfl <| BP.one rfl rfl rfl <| BP.doneE (out := []) rfl) (fun b11 => ?_)
 refine L.toOwn (len := 8) qP (rows := iv0.map wr) (sz := 1) (by rfl) rfl (by simp) ?_
 refine L.ownRsl qP ?_
 refine L.assign rfl rfl ?_
 refine L.nil ?_
 refine T.thenN (T.seq (T.seq (T.region ?_)))
 refine L.assign rfl rfl ?_
 refine L.nil ?_
 refine T.thenN (T.block ?_)
 refine T.loop (fun K' D' M' μ => ∃ (i : Nat) (hh : List W32) (a1 : Option Addr) (c1 : Nat), ((hh.length = 8 ∧ i % 64 = 0 ∧ i ≤ al.length) ∧ (eat hh (al.drop i)).1 = (eat iv0 al).1) ∧ K' = [(5, .int .i64 i), (4, .slice a1 8 c1)] ∧ D' = [rsl 1 a1 8 c1 (hh.map wr)] ∧ M' = [] ∧ μ = al.length - i) (.cons (t := 3) rfl <| SubK.nil _) (⟨0, iv0, _, _, ⟨⟨rfl, by omega, by omega⟩, rfl⟩, rfl, rfl, rfl, rfl⟩) (.cons (t := 5) rfl <| .cons (t := 4) rfl <| SubK.nil _) qD qS ?_
 rintro K1 D1 M1 m1 ⟨i, hh, a1, c1, ⟨⟨hhl, hi64, hile⟩, hea⟩, rfl, rfl, rfl, rfl⟩
 refine T.norm3 qA qA qA ?_
 refine T.seq (T.seq (T.region ?_))
 refine L.move rfl rfl ?_
 refine L.move rfl rfl ?_
 refine L.lenStr rfl Tryz.underlying9 rfl ?_
 refine L.ltI rfl rfl rfl ?_
 refine L.nil ?_
 refine T.thenN ?_
 refine T.cond rfl (fun h15 => ?_) (fun h15 => ?_)
 ·try simp only [dq] at h15
  refine T.skip (T.thenN (T.seq (T.block (T.region ?_))))
  refine L.move rfl rfl ?_
  refine L.move rfl rfl ?_
  refine L.move rfl rfl ?_
  refine L.move rfl rfl ?_
  refine L.addN rfl rfl rfl (by (try simp only [List.length_append, wb_len] at *); omega) ?_
  refine L.sliceS (a := i) (b := i + 64) rfl Tryz.underlying9 rfl ⟨_, (by first | rfl | (congr 2; omega))⟩ ⟨_, (by first | rfl | (congr 2; omega))⟩ qI qI ?_
  refine L.call rfl (evs.cons rfl <| evs.cons rfl <| evs.nil) qD qS (mixed_spec (h := hh) (b := (al.take (i + 64)).drop i) hhl (by rw [List.length_drop, List.length_take]; omega)) ?_
  rintro _ _ _ ⟨a2, c2, rfl, rfl, rfl⟩
  refine L.norm qA qA ?_
  refine L.assign rfl rfl ?_
  refine L.nil ?_
  refine T.ownRsl qP ?_
  refine T.blkN (T.thenN (T.region ?_))
  refine L.move rfl rfl ?_
  refine L.addN rfl rfl rfl (by (try simp only [List.length_append, wb_len] at *); omega) ?_
  refine L.assign rfl rfl ?_
  refine L.nil ?_
  refine T.thenN ?_
  exact T.back ⟨i + 64, blockF hh ((al.take (i + 64)).drop i), _, _, ⟨⟨by rw [blockF_len]; exact hhl, by omega, by omega⟩, by rw [← eat_block (by omega)]; exact hea⟩, rfl, rfl, rfl, rfl⟩ qI (.cons (t := 5) rfl <| .cons (t := 4) rfl <| SubK.nil _) (.cons (t := 3) rfl <| SubK.nil _) qD qD qF
 ·try simp only [dq] at h15
  obtain rfl : i = al.length := by omega
  rw [eat_done] at hea
  simp only at hea
  refine T.exit (T.thenX (T.thenX (T.blkX (T.thenN (T.seq (T.region ?_))))))
  refine L.assign rfl rfl ?_
  refine L.nil ?_
  refine T.thenN (T.seq (T.seq (T.region ?_)))
  refine L.move rfl rfl ?_
  refine L.lenSl rfl Tryz.underlying211 rfl ?_
  refine L.move rfl rfl ?_
  refine L.nil ?_
  refine T.thenN (T.block ?_)
  refine T.loop (fun K' D' M' μ => ∃ (k : Nat), (k ≤ 8) ∧ K' = [(27, .int .i64 k), (6, S ((hh.take k).map wb).flatten)] ∧ D' = [] ∧ M' = [] ∧ μ = 8 - k) (.cons (t := 25) rfl <| .cons (t := 26) rfl <| SubK.nil _) (⟨0, Nat.zero_le _, rfl, rfl, rfl, rfl⟩) (.cons (t := 27) rfl <| .cons (t := 6) rfl <| SubK.nil _) qD qS ?_
  rintro K1 D1 M1 m1 ⟨k, hk, rfl, rfl, rfl, rfl⟩
  refine T.norm3 qA qA qA ?_
  have hwl := flat_wb hh k
  refine T.seq (T.region ?_)
  refine L.ltI rfl rfl rfl ?_
  refine L.nil ?_
  refine T.thenN (T.seq ?_)
  refine T.cond rfl (fun h28 => ?_) (fun h28 => ?_)
  ·try simp only [dq] at h28
   refine T.skip (T.thenN (T.seq (T.block (T.seq (T.region ?_)))))
   have hgk : hh[k]? = some (gd hh k) := gd_get (by omega)
   refine L.idx (i := k) rfl Tryz.underlying211 sz163 rfl rfl qM (by first | rfl | omega | (simp; done)) qG (fun b29 o29 => ?_)
   refine L.load rfl sc163 rfl qC ?_
   refine L.assign rfl rfl ?_
   refine L.nil ?_
   refine T.thenN (T.region ?_)
   refine L.move rfl rfl ?_
   refine L.move rfl rfl ?_
   refine L.callF rfl (evs.cons rfl <| evs.nil) qD qS (r1bytes_spec ) (by rintro u D1 M1 ⟨rfl, rfl, rfl⟩; exact ⟨rfl, _, qA, qF⟩) ?_
   refine L.addS rfl rfl rfl (by (try simp only [List.length_append, wb_len] at *); omega) ?_
   refine L.assign rfl rfl ?_
   refine L.nil ?_
   refine T.blkN (T.thenN (T.region ?_))
   refine L.addN rfl rfl rfl (by (try simp only [List.length_append, wb_len] at *); omega) ?_
   refine L.move rfl rfl ?_
   refine L.nil ?_
   refine T.thenN ?_
   rw [show ((hh.take k).map wb).flatten ++ wb (gd hh k) = ((hh.take (k + 1)).map wb).flatten from by rw [take_gd (l := hh) (k := k) (by omega), map_snoc, List.flatten_append]; simp]
   exact T.back ⟨k + 1, qT, rfl, rfl, rfl, rfl⟩ qI (.cons (t := 27) rfl <| .cons (t := 6) rfl <| SubK.nil _) (.cons (t := 25) rfl <| .cons (t := 26) rfl <| SubK.nil _) qD qD qF
  ·try simp only [dq] at h28
   obtain rfl : k = 8 := by omega
   refine T.exit (T.thenX (T.thenX (T.blkX (T.thenN (T.seq (T.region ?_))))))
   refine L.move rfl rfl ?_
   refine L.assign rfl rfl ?_
   refine L.nil ?_
   refine T.thenN (T.ret ?_)
   exact T.ret1 rfl rfl ⟨congrArg S (by rw [digest_ref (by omega), ← hal, ← hea, List.take_of_length_le (by omega)]), rfl, rfl⟩ qD qF
set_option maxHeartbeats 400000 in
theorem r2of_spec {kind : Int} {t : List UInt8} (ht : t.length ≤ 35184372088832) : Spec Tryz.prog 47 [.int .i64 kind, S t] [] [] (fun v D' M' => v = S (oidF kind t) ∧ D' = [] ∧ M' = []) := by
 refine Spec.intro (n := 19) Tryz.func47 rfl rfl (by decide) (Nat.le_of_ble_eq_true rfl) rfl (fun _ => qA) (fun _ => qA) ?_
 intro σ D M
 refine T.seq (T.region ?_)
 refine L.assign rfl rfl ?_
 refine L.nil ?_
 refine T.thenN (T.seq ?_)
 refine T.regionA (clsL [1, 1, 1, 2, 2, 1, 1, 1, 1, 2, 1, 1, 1, 2, 1]) qk ?_
 refine A.takeP (i := 0) rfl rfl rfl rfl qk qk qk rfl qD ?_
 refine L.move rfl rfl ?_
 refine A.took ?_
 refine A.takeP (i := 1) rfl rfl rfl rfl qk qk qk rfl qD ?_
 refine L.remI rfl rfl rfl (by decide) ?_
 refine A.took ?_
 refine A.takeP (i := 2) rfl rfl rfl rfl qk qk qk rfl qD ?_
 refine L.convIY rfl Tryz.underlying3 Tryz.underlying5 rfl ?_
 rw [kb_tmod]
 refine A.took ?_
 refine A.takeP (i := 6) rfl rfl rfl rfl qk qk qk rfl qD ?_
 refine L.move rfl rfl ?_
 refine A.took ?_
 refine A.takeP (i := 7) rfl rfl rfl rfl qk qk qk rfl qD ?_
 refine L.lenStr rfl Tryz.underlying9 rfl ?_
 refine A.took ?_
 refine A.takeP (i := 8) rfl rfl rfl rfl qk qk qk rfl qD ?_
 refine L.convIW rfl Tryz.underlying3 Tryz.underlying163 rfl ?_
 rw [BitVec.ofInt_natCast]
 refine A.took ?_
 refine A.takeP (i := 11) rfl rfl rfl rfl qk qk qk rfl qD ?_
 refine L.move rfl rfl ?_
 refine A.took ?_
 refine A.branch (is := [3, 9]) qk (by decide) (Each.cons rfl ?_ <| Each.cons rfl ?_ <| Each.nil) 
 ·skip
  refine L.buildSlice rfl bs97 (by decide) (BP.one rfl rfl rfl <| BP.doneE (out := []) rfl) (fun b8 => ?_)
  refine L.toOwn (len := 1) qP (rows := [kb kind].map yr) (sz := 1) (by rfl) rfl (by simp) ?_
  refine L.ownRsl qP ?_
  refine A.backT rfl qD ?_
  refine A.branch (is := [4, 9]) qk (by decide) (Each.cons rfl ?_ <| Each.cons rfl ?_ <| Each.nil) 
  ·skip
   refine L.bytesStr rfl Tryz.underlying97 Tryz.underlying5 Tryz.underlying9 rfl qM ?_
   refine A.backT rfl qD ?_
   refine A.takeP (i := 5) rfl rfl rfl rfl qk qk qk rfl qD ?_
   refine L.addS rfl rfl rfl (by (try simp only [List.length_append, List.length_cons, List.length_nil, wb_len] at *); omega) ?_
   refine A.took ?_
   refine A.branch (is := [9]) qk (by decide) (Each.cons rfl ?_ <| Each.nil) 
   refine L.callF rfl (evs.cons rfl <| evs.nil) qD qS (r1bytes_spec ) (by rintro u D1 M1 ⟨rfl, rfl, rfl⟩; exact ⟨rfl, _, qA, qF⟩) ?_
   refine A.backT rfl qD ?_
   refine A.takeP (i := 10) rfl rfl rfl rfl qk qk qk rfl qD ?_
   refine L.addS rfl rfl rfl (by (try simp only [List.length_append, List.length_cons, List.length_nil, wb_len] at *); omega) ?_
   refine A.took ?_
   refine A.takeP (i := 12) rfl rfl rfl rfl qk qk qk rfl qD ?_
   refine L.addS rfl rfl rfl (by (try simp only [List.length_append, List.length_cons, List.length_nil, wb_len] at *); omega) ?_
   refine A.took ?_
   refine A.branch (is := [13]) qk (by decide) (Each.cons rfl ?_ <| Each.nil) 
   refine L.callF rfl (evs.cons rfl <| evs.nil) qD qS (rof_spec (by simp only [List.length_append, List.length_cons, List.length_nil, wb_len]; omega)) (by rintro u D1 M1 ⟨rfl, rfl, rfl⟩; exact ⟨rfl, _, qA, qF⟩) ?_
   refine A.backT rfl qD ?_
   refine A.takeP (i := 14) rfl rfl rfl rfl qk qk qk rfl qD ?_
   refine L.assign rfl rfl ?_
   refine A.took ?_
   refine A.done qk ?_
   refine T.thenN (T.ret ?_)
   exact T.ret1 rfl rfl ⟨congrArg S (by simp only [oidF, oidHead, nbs_wb, List.append_assoc]; rfl), rfl, rfl⟩ qD qF
  ·skip
   refine L.callF rfl (evs.cons rfl <| evs.nil) qD qS (r1bytes_spec ) (by rintro u D1 M1 ⟨rfl, rfl, rfl⟩; exact ⟨rfl, _, qA, qF⟩) ?_
   refine A.backT rfl qD ?_
   refine A.branch (is := [4]) qk (by decide) (Each.cons rfl ?_ <| Each.nil) 
   refine L.bytesStr rfl Tryz.underlying97 Tryz.underlying5 Tryz.underlying9 rfl qM ?_
   refine A.backT rfl qD ?_
   refine A.takeP (i := 5) rfl rfl rfl rfl qk qk qk rfl qD ?_
   refine L.addS rfl rfl rfl (by (try simp only [List.length_append, List.length_cons, List.length_nil, wb_len] at *); omega) ?_
   refine A.took ?_
   refine A.takeP (i := 10) rfl rfl rfl rfl qk qk qk rfl qD ?_
   refine L.addS rfl rfl rfl (by (try simp only [List.length_append, List.length_cons, List.length_nil, wb_len] at *); omega) ?_
   refine A.took ?_
   refine A.takeP (i := 12) rfl rfl rfl rfl qk qk qk rfl qD ?_
   refine L.addS rfl rfl rfl (by (try simp only [List.length_append, List.length_cons, List.length_nil, wb_len] at *); omega) ?_
   refine A.took ?_
   refine A.branch (is := [13]) qk (by decide) (Each.cons rfl ?_ <| Each.nil) 
   refine L.callF rfl (evs.cons rfl <| evs.nil) qD qS (rof_spec (by simp only [List.length_append, List.length_cons, List.length_nil, wb_len]; omega)) (by rintro u D1 M1 ⟨rfl, rfl, rfl⟩; exact ⟨rfl, _, qA, qF⟩) ?_
   refine A.backT rfl qD ?_
   refine A.takeP (i := 14) rfl rfl rfl rfl qk qk qk rfl qD ?_
   refine L.assign rfl rfl ?_
   refine A.took ?_
   refine A.done qk ?_
   refine T.thenN (T.ret ?_)
   exact T.ret1 rfl rfl ⟨congrArg S (by simp only [oidF, oidHead, nbs_wb, List.append_assoc]; rfl), rfl, rfl⟩ qD qF
 ·skip
  refine L.callF rfl (evs.cons rfl <| evs.nil) qD qS (r1bytes_spec ) (by rintro u D1 M1 ⟨rfl, rfl, rfl⟩; exact ⟨rfl, _, qA, qF⟩) ?_
  refine A.backT rfl qD ?_
  refine A.branch (is := [3]) qk (by decide) (Each.cons rfl ?_ <| Each.nil) 
  refine L.buildSlice rfl bs97 (by decide) (BP.one rfl rfl rfl <| BP.doneE (out := []) rfl) (fun b8 => ?_)
  refine L.toOwn (len := 1) qP (rows := [kb kind].map yr) (sz := 1) (by rfl) rfl (by simp) ?_
  refine L.ownRsl qP ?_
  refine A.backT rfl qD ?_
  refine A.branch (is := [4]) qk (by decide) (Each.cons rfl ?_ <| Each.nil) 
  refine L.bytesStr rfl Tryz.underlying97 Tryz.underlying5 Tryz.underlying9 rfl qM ?_
  refine A.backT rfl qD ?_
  refine A.takeP (i := 5) rfl rfl rfl rfl qk qk qk rfl qD ?_
  refine L.addS rfl rfl rfl (by (try simp only [List.length_append, List.length_cons, List.length_nil, wb_len] at *); omega) ?_
  refine A.took ?_
  refine A.takeP (i := 10) rfl rfl rfl rfl qk qk qk rfl qD ?_
  refine L.addS rfl rfl rfl (by (try simp only [List.length_append, List.length_cons, List.length_nil, wb_len] at *); omega) ?_
  refine A.took ?_
  refine A.takeP (i := 12) rfl rfl rfl rfl qk qk qk rfl qD ?_
  refine L.addS rfl rfl rfl (by (try simp only [List.length_append, List.length_cons, List.length_nil, wb_len] at *); omega) ?_
  refine A.took ?_
  refine A.branch (is := [13]) qk (by decide) (Each.cons rfl ?_ <| Each.nil) 
  refine L.callF rfl (evs.cons rfl <| evs.nil) qD qS (rof_spec (by simp only [List.length_append, List.length_cons, List.length_nil, wb_len]; omega)) (by rintro u D1 M1 ⟨rfl, rfl, rfl⟩; exact ⟨rfl, _, qA, qF⟩) ?_
  refine A.backT rfl qD ?_
  refine A.takeP (i := 14) rfl rfl rfl rfl qk qk qk rfl qD ?_
  refine L.assign rfl rfl ?_
  refine A.took ?_
  refine A.done qk ?_
  refine T.thenN (T.ret ?_)
  exact T.ret1 rfl rfl ⟨congrArg S (by simp only [oidF, oidHead, nbs_wb, List.append_assoc]; rfl), rfl, rfl⟩ qD qF
end Cv
