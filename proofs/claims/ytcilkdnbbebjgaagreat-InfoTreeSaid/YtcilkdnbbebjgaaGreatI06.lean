/-
  The walks: items read.
-/
import Derived.Test.YtcilkdnbbebjgaaGreatF06
import Derived.Test.YtcilkdnbbebjgaaGreatP06
import Derived.Test.YtcilkdnbbebjgaaGreatW05
import Derived.Test.YtcilkdnbbebjgaaGreatProg
import Derived.KernelRfl
set_option linter.unusedVariables false
set_option linter.unusedSimpArgs false
set_option linter.unusedSectionVars false
set_option maxRecDepth 10000
namespace Cv
open Go Go.Proofs

def ItemS (f : Nat) : Prop := ∀ (d rb bb : Nat) (l : Int) (b : Bl), 1 ≤ f → d + f = 10 → 0 ≤ l → l ≤ 1000000 → Spec Tryz.prog 103 [.pointer (some ⟨rb, 0, none⟩), .int .i64 (d : Int)] [] [cl rb 181 [.pointer (some ⟨bb, 0, none⟩), .int .i64 (l)], cl bb 165 (blR (b))] (fun v D' M' => ∃ (a' : Option Addr) (len' cap' : Nat), v = .agg (iRow (itemF f d l b).1 a' len' cap').toArray ∧ D' = [rtr (itemF f d l b).1 (eRow (itemF f d l b).1 a' len' cap')] ∧ M' = [cl rb 181 [.pointer (some ⟨bb, 0, none⟩), .int .i64 ((itemF f d l b).2.1)], cl bb 165 (blR ((itemF f d l b).2.2))])
set_option maxHeartbeats 1600000 in
theorem ritem_step {f : Nat} (ih : ItemS f) {d rb bb : Nat} {l : Int} {b : Bl} (hdf : d + (f + 1) = 10) (hl0 : 0 ≤ l) (hl6 : l ≤ 1000000) : Spec Tryz.prog 103 [.pointer (some ⟨rb, 0, none⟩), .int .i64 (d : Int)] [] [cl rb 181 [.pointer (some ⟨bb, 0, none⟩), .int .i64 (l)], cl bb 165 (blR (b))] (fun v D' M' => ∃ (a' : Option Addr) (len' cap' : Nat), v = .agg (iRow (itemF (f + 1) d l b).1 a' len' cap').toArray ∧ D' = [rtr (itemF (f + 1) d l b).1 (eRow (itemF (f + 1) d l b).1 a' len' cap')] ∧ M' = [cl rb 181 [.pointer (some ⟨bb, 0, none⟩), .int .i64 ((itemF (f + 1) d l b).2.1)], cl bb 165 (blR ((itemF (f + 1) d l b).2.2))]) := by
 refine Spec.intro (n := 95) Tryz.func103 rfl rfl (by decide) (Nat.le_of_ble_eq_true rfl) rfl (fun _ => qA) (fun _ => qA) ?_
 intro σ D M
 obtain ⟨kk, hkk⟩ : ∃ kk, kk = (intR b 4).1 := ⟨_, rfl⟩
 obtain ⟨z1, hz1⟩ : ∃ z1, z1 = (intR b 4).2 := ⟨_, rfl⟩
 have hkl := int_le b 4
 rw [← hkk] at hkl
 refine T.seq (T.region ?_)
 refine L.alloc rfl ze24 (fun b4 => ?_)
 refine L.nil ?_
 refine T.thenN (T.seq (T.region ?_))
 refine L.move rfl rfl ?_
 refine L.nilCheck rfl rfl ?_
 first | refine L.field0 rfl fo181_0 rfl ?_ | refine L.field rfl fo181_0 rfl ?_
 refine L.load rfl sc100 rfl qC ?_
 refine L.call rfl (evs.cons rfl <| evs.cons rfl <| evs.nil) qD qS (bint_spec (b := b) (top := 4) (by decide)) ?_
 rintro _ _ _ ⟨rfl, rfl, rfl⟩
 refine L.norm qA qA ?_
 rw [← hkk, ← hz1]
 refine L.build rfl bu24 (BP.one rfl rfl rfl <| BP.doneE (out := [S [], Value.slice none 0 0]) rfl) ?_
 refine L.alloc rfl ze24 (fun b5 => ?_)
 refine L.storeA ag24 rfl rfl qL qO qU qW ?_
 refine L.nil ?_
 refine T.thenN (T.seq (T.seq (T.region ?_)))
 refine L.move rfl rfl ?_
 refine L.nilCheck rfl rfl ?_
 first | refine L.field0 rfl fo181_1 rfl ?_ | refine L.field rfl fo181_1 rfl ?_
 refine L.load rfl sc3 rfl qC ?_
 refine L.subN rfl rfl rfl (by omega) ?_
 refine L.nilCheck rfl rfl ?_
 first | refine L.field0 rfl fo181_1 rfl ?_ | refine L.field rfl fo181_1 rfl ?_
 refine L.store sc3 rfl rfl rfl qU qE ?_
 refine L.nil ?_
 refine T.thenN (T.seq ?_)
 refine T.cutC (fun K' D' M' => ∃ (w1 : Bool), (w1 = true ↔ (l - 1 < 0 ∨ 8 < d)) ∧ K' = [(29, .bool w1)] ∧ D' = [] ∧ M' = []) (M0 := []) (.cons (t := 0) rfl <| .cons (t := 1) rfl <| .cons (t := 4) rfl <| .cons (t := 5) rfl <| SubK.nil _) qS ?_ ?_
 ·skip
  by_cases hll : l - 1 < 0
  ·skip
   refine T.region ?_
   refine L.move rfl rfl ?_
   refine L.nilCheck rfl rfl ?_
   first | refine L.field0 rfl fo181_1 rfl ?_ | refine L.field rfl fo181_1 rfl ?_
   refine L.load rfl sc3 rfl qC ?_
   refine L.ltI rfl rfl rfl ?_
   refine L.move rfl rfl ?_
   refine L.known (t := 26) rfl (show _ = Value.bool true from congrArg Value.bool (decide_eq_true hll)) ?_
   refine L.guardF (dj := 26) (c := true) rfl rfl rfl rfl rfl (by decide) ?_
   refine L.guardF (dj := 26) (c := true) rfl rfl rfl rfl rfl (by decide) ?_
   refine L.pickT rfl rfl rfl ?_
   refine L.nil ?_
   refine T.thenN ?_
   exact T.toJoin ⟨_, (by simp_all <;> omega), rfl, rfl, rfl⟩ (.cons (t := 29) rfl <| SubK.nil _) (.cons (t := 0) rfl <| .cons (t := 1) rfl <| .cons (t := 4) rfl <| .cons (t := 5) rfl <| SubK.nil _) qD qD qF
  ·skip
   refine T.region ?_
   refine L.move rfl rfl ?_
   refine L.nilCheck rfl rfl ?_
   first | refine L.field0 rfl fo181_1 rfl ?_ | refine L.field rfl fo181_1 rfl ?_
   refine L.load rfl sc3 rfl qC ?_
   refine L.ltI rfl rfl rfl ?_
   refine L.move rfl rfl ?_
   refine L.known (t := 26) rfl (show _ = Value.bool false from congrArg Value.bool (decide_eq_false hll)) ?_
   refine L.guardT (dj := 26) rfl rfl rfl ?_
   refine L.move rfl rfl ?_
   refine L.guardT (dj := 26) rfl rfl rfl ?_
   refine L.gtI rfl rfl rfl ?_
   refine L.pickF rfl rfl rfl ?_
   refine L.nil ?_
   refine T.thenN ?_
   exact T.toJoin ⟨_, (by simp_all <;> omega), rfl, rfl, rfl⟩ (.cons (t := 29) rfl <| SubK.nil _) (.cons (t := 0) rfl <| .cons (t := 1) rfl <| .cons (t := 4) rfl <| .cons (t := 5) rfl <| SubK.nil _) qD qD qF
 rintro _ _ _ ⟨w1, hw1, rfl, rfl, rfl⟩
 refine T.norm3 qA qA qA ?_
 refine T.thenN ?_
 refine T.cutC (fun K' D' M' => ∃ (z2 : Bl), (z2 = if l - 1 < 0 ∨ 8 < d then failB z1 5 else z1) ∧ K' = [] ∧ D' = [] ∧ M' = [cl bb 165 (blR (z2))]) (M0 := [cl bb 165 (blR (z1))]) (.cons (t := 0) rfl <| .cons (t := 1) rfl <| .cons (t := 4) rfl <| .cons (t := 5) rfl <| SubK.nil _) qS ?_ ?_
 ·skip
  refine T.cond rfl (fun h29 => ?_) (fun h29 => ?_)
  ·try simp only [dq] at h29
   refine T.region ?_
   refine L.move rfl rfl ?_
   refine L.nilCheck rfl rfl ?_
   first | refine L.field0 rfl fo181_0 rfl ?_ | refine L.field rfl fo181_0 rfl ?_
   refine L.load rfl sc100 rfl qC ?_
   refine L.call rfl (evs.cons rfl <| evs.cons rfl <| evs.nil) qD qS (bfail_spec (b := z1) (e := 5)) ?_
   rintro _ _ _ ⟨rfl, rfl, rfl⟩
   refine L.norm qA qA ?_
   refine L.nil ?_
   refine T.thenN ?_
   exact T.toJoin ⟨_, (by rw [if_pos (hw1.1 h29)]), rfl, rfl, rfl⟩ (SubK.nil _) (.cons (t := 0) rfl <| .cons (t := 1) rfl <| .cons (t := 4) rfl <| .cons (t := 5) rfl <| SubK.nil _) qD qD qF
  ·try simp only [dq] at h29
   refine T.skip (T.thenN ?_)
   exact T.toJoin ⟨_, (by rw [if_neg (fun e => by rw [hw1.2 e] at h29; cases h29)]), rfl, rfl, rfl⟩ (SubK.nil _) (.cons (t := 0) rfl <| .cons (t := 1) rfl <| .cons (t := 4) rfl <| .cons (t := 5) rfl <| SubK.nil _) qD qD qF
 rintro _ _ _ ⟨z2, hz2, rfl, rfl, rfl⟩
 refine T.norm3 qA qA qA ?_
 refine T.thenN (T.seq (T.seq ?_))
 refine T.cutC (fun K' D' M' => ∃ (w2 : Bool), (w2 = true ↔ (z2.err = 0 ∧ kk < 1)) ∧ K' = [(45, .bool w2)] ∧ D' = [] ∧ M' = []) (M0 := []) (.cons (t := 0) rfl <| .cons (t := 1) rfl <| .cons (t := 4) rfl <| .cons (t := 5) rfl <| SubK.nil _) qS ?_ ?_
 ·skip
  by_cases hbe : z2.err = 0
  ·skip
   refine T.region ?_
   refine L.move rfl rfl ?_
   refine L.nilCheck rfl rfl ?_
   first | refine L.field0 rfl fo181_0 rfl ?_ | refine L.field rfl fo181_0 rfl ?_
   refine L.load rfl sc100 rfl qC ?_
   refine L.callF rfl (evs.cons rfl <| evs.nil) qD qS (berr_spec (b := z2)) (by rintro u D1 M1 ⟨rfl, rfl, rfl⟩; exact ⟨rfl, _, qA, qF⟩) ?_
   refine L.eqI rfl rfl rfl ?_
   refine L.move rfl rfl ?_
   refine L.known (t := 41) rfl (show _ = Value.bool true from congrArg Value.bool (decide_eq_true hbe)) ?_
   refine L.guardT (dj := 41) rfl rfl rfl ?_
   first | refine L.field0 rfl fo24_0 rfl ?_ | refine L.field rfl fo24_0 rfl ?_
   refine L.guardT (dj := 41) rfl rfl rfl ?_
   refine L.load rfl sc3 rfl qC ?_
   refine L.guardT (dj := 41) rfl rfl rfl ?_
   refine L.ltI rfl rfl rfl ?_
   refine L.pickT rfl rfl rfl ?_
   refine L.nil ?_
   refine T.thenN ?_
   exact T.toJoin ⟨_, (by simp_all <;> omega), rfl, rfl, rfl⟩ (.cons (t := 45) rfl <| SubK.nil _) (.cons (t := 0) rfl <| .cons (t := 1) rfl <| .cons (t := 4) rfl <| .cons (t := 5) rfl <| SubK.nil _) qD qD qF
  ·skip
   refine T.region ?_
   refine L.move rfl rfl ?_
   refine L.nilCheck rfl rfl ?_
   first | refine L.field0 rfl fo181_0 rfl ?_ | refine L.field rfl fo181_0 rfl ?_
   refine L.load rfl sc100 rfl qC ?_
   refine L.callF rfl (evs.cons rfl <| evs.nil) qD qS (berr_spec (b := z2)) (by rintro u D1 M1 ⟨rfl, rfl, rfl⟩; exact ⟨rfl, _, qA, qF⟩) ?_
   refine L.eqI rfl rfl rfl ?_
   refine L.move rfl rfl ?_
   refine L.known (t := 41) rfl (show _ = Value.bool false from congrArg Value.bool (decide_eq_false hbe)) ?_
   refine L.guardF (dj := 41) (c := false) rfl rfl rfl rfl rfl (by decide) ?_
   refine L.guardF (dj := 41) (c := false) rfl rfl rfl rfl rfl (by decide) ?_
   refine L.guardF (dj := 41) (c := false) rfl rfl rfl rfl rfl (by decide) ?_
   refine L.pickF rfl rfl rfl ?_
   refine L.nil ?_
   refine T.thenN ?_
   exact T.toJoin ⟨_, (by simp_all <;> omega), rfl, rfl, rfl⟩ (.cons (t := 45) rfl <| SubK.nil _) (.cons (t := 0) rfl <| .cons (t := 1) rfl <| .cons (t := 4) rfl <| .cons (t := 5) rfl <| SubK.nil _) qD qD qF
 rintro _ _ _ ⟨w2, hw2, rfl, rfl, rfl⟩
 refine T.norm3 qA qA qA ?_
 refine T.thenN ?_
 refine T.cutC (fun K' D' M' => ∃ (z3 : Bl), (z3 = if z2.err = 0 ∧ kk < 1 then failB z2 2 else z2) ∧ K' = [] ∧ D' = [] ∧ M' = [cl bb 165 (blR (z3))]) (M0 := [cl bb 165 (blR (z2))]) (.cons (t := 0) rfl <| .cons (t := 1) rfl <| .cons (t := 4) rfl <| .cons (t := 5) rfl <| SubK.nil _) qS ?_ ?_
 ·skip
  refine T.cond rfl (fun h45 => ?_) (fun h45 => ?_)
  ·try simp only [dq] at h45
   refine T.region ?_
   refine L.move rfl rfl ?_
   refine L.nilCheck rfl rfl ?_
   first | refine L.field0 rfl fo181_0 rfl ?_ | refine L.field rfl fo181_0 rfl ?_
   refine L.load rfl sc100 rfl qC ?_
   refine L.call rfl (evs.cons rfl <| evs.cons rfl <| evs.nil) qD qS (bfail_spec (b := z2) (e := 2)) ?_
   rintro _ _ _ ⟨rfl, rfl, rfl⟩
   refine L.norm qA qA ?_
   refine L.nil ?_
   refine T.thenN ?_
   exact T.toJoin ⟨_, (by rw [if_pos (hw2.1 h45)]), rfl, rfl, rfl⟩ (SubK.nil _) (.cons (t := 0) rfl <| .cons (t := 1) rfl <| .cons (t := 4) rfl <| .cons (t := 5) rfl <| SubK.nil _) qD qD qF
  ·try simp only [dq] at h45
   refine T.skip (T.thenN ?_)
   exact T.toJoin ⟨_, (by rw [if_neg (fun e => by rw [hw2.2 e] at h45; cases h45)]), rfl, rfl, rfl⟩ (SubK.nil _) (.cons (t := 0) rfl <| .cons (t := 1) rfl <| .cons (t := 4) rfl <| .cons (t := 5) rfl <| SubK.nil _) qD qD qF
 rintro _ _ _ ⟨z3, hz3, rfl, rfl, rfl⟩
 refine T.norm3 qA qA qA ?_
 have hkc : kindC d l b = z3 := by unfold kindC kindB; rw [← hkk, ← hz1, ← hz2, ← hz3]
 refine T.thenN (T.seq (T.seq (T.region ?_)))
 first | refine L.field0 rfl fo24_0 rfl ?_ | refine L.field rfl fo24_0 rfl ?_
 refine L.load rfl sc3 rfl qC ?_
 refine L.neI rfl rfl rfl ?_
 refine L.nil ?_
 refine T.thenN ?_
 refine T.cond rfl (fun h53 => ?_) (fun h53 => ?_)
 ·try simp only [dq] at h53
  have hif := item_file (f := f) (d := d) (l := l) (b := b) (by rw [← hkk]; omega)
  rw [hkc, ← hkk] at hif
  refine T.seq (T.region ?_)
  refine L.move rfl rfl ?_
  refine L.nilCheck rfl rfl ?_
  first | refine L.field0 rfl fo181_0 rfl ?_ | refine L.field rfl fo181_0 rfl ?_
  refine L.load rfl sc100 rfl qC ?_
  refine L.call rfl (evs.cons rfl <| evs.cons rfl <| evs.nil) qD qS (bstrr_spec (b := z3) (top := 8192) (by decide)) ?_
  rintro _ _ _ ⟨rfl, rfl, rfl⟩
  refine L.norm qA qA ?_
  first | refine L.field0 rfl fo24_1 rfl ?_ | refine L.field rfl fo24_1 rfl ?_
  refine L.store sc9 rfl rfl rfl qU qE ?_
  refine L.nil ?_
  refine T.thenN (T.seq (T.region ?_))
  refine L.loadA rfl ag24 rfl qN ?_
  refine L.storeA ag24 rfl rfl qL qO qU qW ?_
  refine L.nil ?_
  refine T.thenN (T.ret ?_)
  refine T.thenR ?_
  have e1 : (itemF (f + 1) d l b).1 = .mk [] kk (strR z3 8192).1 [] := by rw [hif]
  have e2 : (itemF (f + 1) d l b).2.1 = l - 1 := by rw [hif]
  have e3 : (itemF (f + 1) d l b).2.2 = (strR z3 8192).2 := by rw [hif]
  rw [e1, e2, e3]
  refine T.fact0 (φ := rtr (.mk [] kk (strR z3 8192).1 []) (eRow (.mk [] kk (strR z3 8192).1 []) none 0 0)) (fun z => rt_leaf) ?_
  exact T.retA rfl ag24 rfl qN ⟨none, 0, 0, rfl, rfl, rfl⟩ qD qF
 ·try simp only [dq] at h53
  have hid := item_dir (f := f) (d := d) (l := l) (b := b) (by rw [← hkk]; omega)
  rw [hkc] at hid
  have hkp := kind_pos (d := d) (l := l) (b := b)
  rw [hkc] at hkp
  refine T.skip (T.thenN (T.seq (T.seq (T.region ?_))))
  refine L.move rfl rfl ?_
  refine L.nilCheck rfl rfl ?_
  first | refine L.field0 rfl fo181_0 rfl ?_ | refine L.field rfl fo181_0 rfl ?_
  refine L.load rfl sc100 rfl qC ?_
  refine L.call rfl (evs.cons rfl <| evs.cons rfl <| evs.nil) qD qS (bint_spec (b := z3) (top := 64) (by decide)) ?_
  rintro _ _ _ ⟨rfl, rfl, rfl⟩
  refine L.norm qA qA ?_
  have hnl := int_le z3 64
  obtain ⟨n0, hn0⟩ : ∃ n0, n0 = (intR z3 64).1 := ⟨_, rfl⟩
  obtain ⟨z4, hz4⟩ : ∃ z4, z4 = (intR z3 64).2 := ⟨_, rfl⟩
  rw [← hn0, ← hz4]
  rw [← hn0] at hnl
  refine L.assign rfl rfl ?_
  refine L.nil ?_
  refine T.newOwn (sz := 4) (e := 142) ?_
  refine T.fact0 (φ := etsA []) (fun z q hq => by cases hq) ?_
  refine T.clEq b5 [.int .i64 4, S [], .slice none 0 0] qP (by rw [show kk = 4 by omega]; rfl) ?_
  refine T.thenN (T.block ?_)
  refine T.loop (fun K' D' M' μ => ∃ (m n5 : Nat) (l5 : Int) (z5 : Bl) (acc : List ET) (a5 : Option Addr) (c5 : Nat), (acc.length = n5 ∧ LI (itemF f (d + 1)) n0 (l - 1) z4 m l5 z5 acc) ∧ K' = [(6, .int .i64 (m : Int))] ∧ D' = [etsA acc] ∧ M' = [cl rb 181 [.pointer (some ⟨bb, 0, none⟩), .int .i64 (l5)], cl bb 165 (blR (z5)), cl b5 24 [.int .i64 4, S [], .slice a5 n5 c5], own 4 142 a5 n5 c5 (acc.map eT)] ∧ μ = 2 * m) (.cons (t := 0) rfl <| .cons (t := 1) rfl <| .cons (t := 4) rfl <| .cons (t := 5) rfl <| SubK.nil _) (⟨n0, 0, l - 1, z4, [], none, 0, ⟨rfl, LI.zero ⟨by omega, fun e => by have hq := kind_low (d := d) (l := l) (b := b) (by omega); rw [hkc] at hq; rw [hz4, int_bad hq]; exact hq, by omega⟩⟩, rfl, rfl, rfl, rfl⟩) (.cons (t := 6) rfl <| SubK.nil _) qD qS ?_
  rintro K1 D1 M1 m1 ⟨m, n5, l5, z5, acc, a5, c5, ⟨hal, hLI⟩, rfl, rfl, rfl, rfl⟩
  refine T.norm3 qA qA qA ?_
  refine T.seq (T.seq ?_)
  refine T.cutC (fun K' D' M' => ∃ (w3 : Bool), (w3 = true ↔ (0 < m ∧ z5.err = 0)) ∧ K' = [(75, .bool w3)] ∧ D' = [] ∧ M' = []) (M0 := []) (.cons (t := 0) rfl <| .cons (t := 1) rfl <| .cons (t := 4) rfl <| .cons (t := 5) rfl <| .cons (t := 6) rfl <| SubK.nil _) qS ?_ ?_
  ·skip
   rcases Nat.eq_zero_or_pos m with hm0 | hm0
   ·skip
    refine T.region ?_
    refine L.move rfl rfl ?_
    refine L.gtI rfl rfl rfl ?_
    refine L.move rfl rfl ?_
    refine L.known (t := 68) rfl (show _ = Value.bool false from congrArg Value.bool (decide_eq_false (by omega))) ?_
    refine L.guardF (dj := 68) (c := false) rfl rfl rfl rfl rfl (by decide) ?_
    refine L.guardF (dj := 68) (c := false) rfl rfl rfl rfl rfl (by decide) ?_
    refine L.guardF (dj := 68) (c := false) rfl rfl rfl rfl rfl (by decide) ?_
    refine L.guardF (dj := 68) (c := false) rfl rfl rfl rfl rfl (by decide) ?_
    refine L.guardF (dj := 68) (c := false) rfl rfl rfl rfl rfl (by decide) ?_
    refine L.guardF (dj := 68) (c := false) rfl rfl rfl rfl rfl (by decide) ?_
    refine L.pickF rfl rfl rfl ?_
    refine L.nil ?_
    refine T.thenN ?_
    exact T.toJoin ⟨_, (by simp_all <;> omega), rfl, rfl, rfl⟩ (.cons (t := 75) rfl <| SubK.nil _) (.cons (t := 0) rfl <| .cons (t := 1) rfl <| .cons (t := 4) rfl <| .cons (t := 5) rfl <| .cons (t := 6) rfl <| SubK.nil _) qD qD qF
   ·skip
    refine T.region ?_
    refine L.move rfl rfl ?_
    refine L.gtI rfl rfl rfl ?_
    refine L.move rfl rfl ?_
    refine L.known (t := 68) rfl (show _ = Value.bool true from congrArg Value.bool (decide_eq_true (by omega))) ?_
    refine L.guardT (dj := 68) rfl rfl rfl ?_
    refine L.move rfl rfl ?_
    refine L.guardT (dj := 68) rfl rfl rfl ?_
    refine L.nilCheck rfl rfl ?_
    refine L.guardT (dj := 68) rfl rfl rfl ?_
    first | refine L.field0 rfl fo181_0 rfl ?_ | refine L.field rfl fo181_0 rfl ?_
    refine L.guardT (dj := 68) rfl rfl rfl ?_
    refine L.load rfl sc100 rfl qC ?_
    refine L.guardT (dj := 68) rfl rfl rfl ?_
    refine L.callF rfl (evs.cons rfl <| evs.nil) qD qS (berr_spec (b := z5)) (by rintro u D1 M1 ⟨rfl, rfl, rfl⟩; exact ⟨rfl, _, qA, qF⟩) ?_
    refine L.guardT (dj := 68) rfl rfl rfl ?_
    refine L.eqI rfl rfl rfl ?_
    refine L.pickT rfl rfl rfl ?_
    refine L.nil ?_
    refine T.thenN ?_
    exact T.toJoin ⟨_, (by simp_all <;> omega), rfl, rfl, rfl⟩ (.cons (t := 75) rfl <| SubK.nil _) (.cons (t := 0) rfl <| .cons (t := 1) rfl <| .cons (t := 4) rfl <| .cons (t := 5) rfl <| .cons (t := 6) rfl <| SubK.nil _) qD qD qF
  rintro _ _ _ ⟨w3, hw3, rfl, rfl, rfl⟩
  refine T.norm3 qA qA qA ?_
  refine T.thenN ?_
  refine T.cond rfl (fun h75 => ?_) (fun h75 => ?_)
  ·try simp only [dq] at h75
   have hwt := hw3.1 h75
   have hks := kind_stick (d := d) (l := l) (b := b) (by rw [hkc]; exact hkp (by have := hLI.len; omega))
   have hmn := hLI.len
   refine T.skip (T.thenN (T.seq (T.block (T.seq (T.region ?_)))))
   refine L.move rfl rfl ?_
   refine L.nilCheck rfl rfl ?_
   first | refine L.field0 rfl fo181_0 rfl ?_ | refine L.field rfl fo181_0 rfl ?_
   refine L.load rfl sc100 rfl qC ?_
   refine L.call rfl (evs.cons rfl <| evs.cons rfl <| evs.nil) qD qS (bstrr_spec (b := z5) (top := 24) (by decide)) ?_
   rintro _ _ _ ⟨rfl, rfl, rfl⟩
   refine L.norm qA qA ?_
   obtain ⟨nm, hnm⟩ : ∃ q, q = (strR z5 24).1 := ⟨_, rfl⟩
   obtain ⟨z6, hz6⟩ : ∃ q, q = (strR z5 24).2 := ⟨_, rfl⟩
   rw [← hnm, ← hz6]
   refine L.assign rfl rfl ?_
   refine L.nil ?_
   have hir := item_ok f (d + 1) l5 z6 (by omega) (by omega)
   refine T.thenN ?_
   refine T.regionA (clsL [1, 2, 1, 1, 1, 1, 2, 1, 2, 2, 1, 2]) qk ?_
   refine A.takeP (i := 0) rfl rfl rfl rfl qk qk qk rfl qD ?_
   first | refine L.field0 rfl fo24_2 rfl ?_ | refine L.field rfl fo24_2 rfl ?_
   refine A.took ?_
   refine A.takeP (i := 2) rfl rfl rfl rfl qk qk qk rfl qD ?_
   refine L.move rfl rfl ?_
   refine A.took ?_
   refine A.takeP (i := 3) rfl rfl rfl rfl qk qk qk rfl qD ?_
   refine L.move rfl rfl ?_
   refine A.took ?_
   refine A.takeP (i := 4) rfl rfl rfl rfl qk qk qk rfl qD ?_
   refine L.move rfl rfl ?_
   refine A.took ?_
   refine A.takeP (i := 5) rfl rfl rfl rfl qk qk qk rfl qD ?_
   refine L.addN rfl rfl rfl (by omega) ?_
   refine A.took ?_
   refine A.branch (is := [1, 6]) qk (by decide) (Each.cons rfl ?_ <| Each.cons rfl ?_ <| Each.nil) 
   ·skip
    refine L.load rfl sc22 rfl qC ?_
    refine A.backT rfl qD ?_
    refine A.branch (is := [6]) qk (by decide) (Each.cons rfl ?_ <| Each.nil) 
    refine L.call rfl (evs.cons rfl <| evs.cons rfl <| evs.nil) qD qS (ih (d + 1) rb bb l5 z6 (by omega) (by omega) (by have := hLI.low; by_cases e : l5 = -1; exact absurd hwt.2 (this.2.1 e); omega) (by have := hLI.low; omega)) ?_
    rintro _ _ _ ⟨fa, fl, fc, rfl, rfl, rfl⟩
    refine L.norm qA qA ?_
    refine A.backT rfl qD ?_
    refine A.takeP (i := 7) rfl rfl rfl rfl qk qk qk rfl qD ?_
    refine L.build rfl bu142 (BP.one rfl rfl rfl <| BP.agg rfl rfl (by first | with_reducible assumption | (simp; done) | (simp only [List.length_map]; with_reducible assumption) | (simp [*]; done) | rfl) (Nat.le_of_ble_eq_true rfl) qR <| BP.doneE (out := []) rfl) ?_
    refine A.took ?_
    refine A.branch (is := [8]) qk (by decide) (Each.cons rfl ?_ <| Each.nil) 
    refine L.buildSlice rfl bs22 (by decide) (BP.agg rfl rfl (by first | with_reducible assumption | (simp; done) | (simp only [List.length_map]; with_reducible assumption) | (simp [*]; done) | rfl) (Nat.le_of_ble_eq_true rfl) qR <| BP.doneE (out := []) rfl) (fun b91 => ?_)
    refine A.backT rfl qD ?_
    refine A.branch (is := [9]) qk (by decide) (Each.cons rfl ?_ <| Each.nil) 
    refine L.append1 rfl Tryz.underlying22 el142 rfl rfl qP qM rfl qO1 qI qI (fun a92 c92 => ?_)
    refine A.backT rfl qD ?_
    refine A.takeP (i := 10) rfl rfl rfl rfl qk qk qk rfl qD ?_
    first | refine L.field0 rfl fo24_2 rfl ?_ | refine L.field rfl fo24_2 rfl ?_
    refine A.took ?_
    refine A.branch (is := [11]) qk (by decide) (Each.cons rfl ?_ <| Each.nil) 
    refine L.store sc22 rfl rfl rfl qU qE ?_
    refine A.backT rfl qD ?_
    refine A.done qk ?_
    refine T.blkN (T.thenN (T.region ?_))
    refine L.move rfl rfl ?_
    refine L.subN rfl rfl rfl (by omega) ?_
    rw [show (m : Int) - 1 = ((m - 1 : Nat) : Int) by omega]
    refine L.assign rfl rfl ?_
    refine L.nil ?_
    refine T.thenN ?_
    refine T.ownEq _ ((acc ++ [((itemF f (d + 1) l5 z6).1.named nm, fa, fl, fc)]).map eT) qP (by rw [List.map_append]; rfl) ?_
    refine T.trName (x := (itemF f (d + 1) l5 z6).1) (y := (itemF f (d + 1) l5 z6).1.named nm) qM rfl ?_
    refine T.etsSnoc (xs := acc) (Y := (itemF f (d + 1) l5 z6).1) (m := nm) qM qM ?_
    exact T.back ⟨m - 1, n5 + 1, (itemF f (d + 1) l5 z6).2.1, (itemF f (d + 1) l5 z6).2.2, acc ++ [((itemF f (d + 1) l5 z6).1.named nm, fa, fl, fc)], _, _, ⟨by simp [hal], by rw [hz6, hnm]; exact hLI.step hwt.1 hwt.2 (by rw [← hz6]; exact hir)⟩, rfl, rfl, rfl, rfl⟩ qI (.cons (t := 6) rfl <| SubK.nil _) (.cons (t := 0) rfl <| .cons (t := 1) rfl <| .cons (t := 4) rfl <| .cons (t := 5) rfl <| SubK.nil _) qD qD qF
   ·skip
    refine L.call rfl (evs.cons rfl <| evs.cons rfl <| evs.nil) qD qS (ih (d + 1) rb bb l5 z6 (by omega) (by omega) (by have := hLI.low; by_cases e : l5 = -1; exact absurd hwt.2 (this.2.1 e); omega) (by have := hLI.low; omega)) ?_
    rintro _ _ _ ⟨fa, fl, fc, rfl, rfl, rfl⟩
    refine L.norm qA qA ?_
    refine A.backT rfl qD ?_
    refine A.takeP (i := 7) rfl rfl rfl rfl qk qk qk rfl qD ?_
    refine L.build rfl bu142 (BP.one rfl rfl rfl <| BP.agg rfl rfl (by first | with_reducible assumption | (simp; done) | (simp only [List.length_map]; with_reducible assumption) | (simp [*]; done) | rfl) (Nat.le_of_ble_eq_true rfl) qR <| BP.doneE (out := []) rfl) ?_
    refine A.took ?_
    refine A.branch (is := [1, 8]) qk (by decide) (Each.cons rfl ?_ <| Each.cons rfl ?_ <| Each.nil) 
    ·skip
     refine L.load rfl sc22 rfl qC ?_
     refine A.backT rfl qD ?_
     refine A.branch (is := [8]) qk (by decide) (Each.cons rfl ?_ <| Each.nil) 
     refine L.buildSlice rfl bs22 (by decide) (BP.agg rfl rfl (by first | with_reducible assumption | (simp; done) | (simp only [List.length_map]; with_reducible assumption) | (simp [*]; done) | rfl) (Nat.le_of_ble_eq_true rfl) qR <| BP.doneE (out := []) rfl) (fun b91 => ?_)
     refine A.backT rfl qD ?_
     refine A.branch (is := [9]) qk (by decide) (Each.cons rfl ?_ <| Each.nil) 
     refine L.append1 rfl Tryz.underlying22 el142 rfl rfl qP qM rfl qO1 qI qI (fun a92 c92 => ?_)
     refine A.backT rfl qD ?_
     refine A.takeP (i := 10) rfl rfl rfl rfl qk qk qk rfl qD ?_
     first | refine L.field0 rfl fo24_2 rfl ?_ | refine L.field rfl fo24_2 rfl ?_
     refine A.took ?_
     refine A.branch (is := [11]) qk (by decide) (Each.cons rfl ?_ <| Each.nil) 
     refine L.store sc22 rfl rfl rfl qU qE ?_
     refine A.backT rfl qD ?_
     refine A.done qk ?_
     refine T.blkN (T.thenN (T.region ?_))
     refine L.move rfl rfl ?_
     refine L.subN rfl rfl rfl (by omega) ?_
     rw [show (m : Int) - 1 = ((m - 1 : Nat) : Int) by omega]
     refine L.assign rfl rfl ?_
     refine L.nil ?_
     refine T.thenN ?_
     refine T.ownEq _ ((acc ++ [((itemF f (d + 1) l5 z6).1.named nm, fa, fl, fc)]).map eT) qP (by rw [List.map_append]; rfl) ?_
     refine T.trName (x := (itemF f (d + 1) l5 z6).1) (y := (itemF f (d + 1) l5 z6).1.named nm) qM rfl ?_
     refine T.etsSnoc (xs := acc) (Y := (itemF f (d + 1) l5 z6).1) (m := nm) qM qM ?_
     exact T.back ⟨m - 1, n5 + 1, (itemF f (d + 1) l5 z6).2.1, (itemF f (d + 1) l5 z6).2.2, acc ++ [((itemF f (d + 1) l5 z6).1.named nm, fa, fl, fc)], _, _, ⟨by simp [hal], by rw [hz6, hnm]; exact hLI.step hwt.1 hwt.2 (by rw [← hz6]; exact hir)⟩, rfl, rfl, rfl, rfl⟩ qI (.cons (t := 6) rfl <| SubK.nil _) (.cons (t := 0) rfl <| .cons (t := 1) rfl <| .cons (t := 4) rfl <| .cons (t := 5) rfl <| SubK.nil _) qD qD qF
    ·skip
     refine L.buildSlice rfl bs22 (by decide) (BP.agg rfl rfl (by first | with_reducible assumption | (simp; done) | (simp only [List.length_map]; with_reducible assumption) | (simp [*]; done) | rfl) (Nat.le_of_ble_eq_true rfl) qR <| BP.doneE (out := []) rfl) (fun b91 => ?_)
     refine A.backT rfl qD ?_
     refine A.branch (is := [1]) qk (by decide) (Each.cons rfl ?_ <| Each.nil) 
     refine L.load rfl sc22 rfl qC ?_
     refine A.backT rfl qD ?_
     refine A.branch (is := [9]) qk (by decide) (Each.cons rfl ?_ <| Each.nil) 
     refine L.append1 rfl Tryz.underlying22 el142 rfl rfl qP qM rfl qO1 qI qI (fun a92 c92 => ?_)
     refine A.backT rfl qD ?_
     refine A.takeP (i := 10) rfl rfl rfl rfl qk qk qk rfl qD ?_
     first | refine L.field0 rfl fo24_2 rfl ?_ | refine L.field rfl fo24_2 rfl ?_
     refine A.took ?_
     refine A.branch (is := [11]) qk (by decide) (Each.cons rfl ?_ <| Each.nil) 
     refine L.store sc22 rfl rfl rfl qU qE ?_
     refine A.backT rfl qD ?_
     refine A.done qk ?_
     refine T.blkN (T.thenN (T.region ?_))
     refine L.move rfl rfl ?_
     refine L.subN rfl rfl rfl (by omega) ?_
     rw [show (m : Int) - 1 = ((m - 1 : Nat) : Int) by omega]
     refine L.assign rfl rfl ?_
     refine L.nil ?_
     refine T.thenN ?_
     refine T.ownEq _ ((acc ++ [((itemF f (d + 1) l5 z6).1.named nm, fa, fl, fc)]).map eT) qP (by rw [List.map_append]; rfl) ?_
     refine T.trName (x := (itemF f (d + 1) l5 z6).1) (y := (itemF f (d + 1) l5 z6).1.named nm) qM rfl ?_
     refine T.etsSnoc (xs := acc) (Y := (itemF f (d + 1) l5 z6).1) (m := nm) qM qM ?_
     exact T.back ⟨m - 1, n5 + 1, (itemF f (d + 1) l5 z6).2.1, (itemF f (d + 1) l5 z6).2.2, acc ++ [((itemF f (d + 1) l5 z6).1.named nm, fa, fl, fc)], _, _, ⟨by simp [hal], by rw [hz6, hnm]; exact hLI.step hwt.1 hwt.2 (by rw [← hz6]; exact hir)⟩, rfl, rfl, rfl, rfl⟩ qI (.cons (t := 6) rfl <| SubK.nil _) (.cons (t := 0) rfl <| .cons (t := 1) rfl <| .cons (t := 4) rfl <| .cons (t := 5) rfl <| SubK.nil _) qD qD qF
  ·try simp only [dq] at h75
   have hst := hLI.stop (fun e => by rw [hw3.2 e] at h75; cases h75)
   refine T.exit (T.thenX (T.thenX (T.blkX (T.thenN (T.seq (T.region ?_))))))
   refine L.loadA rfl ag24 rfl qN ?_
   refine L.storeA ag24 rfl rfl qL qO qU qW ?_
   refine L.nil ?_
   refine T.thenN (T.ret ?_)
   have e1 : (itemF (f + 1) d l b).1 = ofT acc := by rw [hid]; show Tr.mk [] 4 [] (loopF _ (intR z3 64).1 (l - 1) (intR z3 64).2).1 = _; rw [← hn0, ← hz4, hst]; rfl
   have e2 : (itemF (f + 1) d l b).2.1 = l5 := by rw [hid]; show (loopF _ (intR z3 64).1 (l - 1) (intR z3 64).2).2.1 = _; rw [← hn0, ← hz4, hst]
   have e3 : (itemF (f + 1) d l b).2.2 = z5 := by rw [hid]; show (loopF _ (intR z3 64).1 (l - 1) (intR z3 64).2).2.2 = _; rw [← hn0, ← hz4, hst]
   rw [e1, e2, e3]
   refine T.ownRsl (rows := acc.map eT) qP ?_
   refine T.derive (φ := etsA acc) qM etsA_kids ?_
   refine T.trMkE (x := ofT acc) (ks := acc.map (·.1)) rfl qM qM ?_
   exact T.retA rfl ag24 rfl qN ⟨a5, n5, c5, rfl, rfl, rfl⟩ qD qF
theorem item_spec : ∀ f, ItemS f := by
 intro f
 induction f with
 | zero => intro d rb bb l b h; omega
 | succ f ih => intro d rb bb l b h1 h2 h3 h4; exact ritem_step ih h2 h3 h4
end Cv
