/-
  The walks: Told.
-/
import Derived.Test.YtcilkdnbbebjgaaGreatD05
import Derived.Test.YtcilkdnbbebjgaaGreatProg
import Derived.KernelRfl
set_option linter.unusedVariables false
set_option linter.unusedSimpArgs false
set_option linter.unusedSectionVars false
set_option maxRecDepth 10000
namespace Cv
open Go Go.Proofs

def ToldS (x : Tr) : Prop := ∀ (a : Option Addr) (len cap : Nat) (nm : List UInt8) (d : Nat) (f r : Bool), (d + x.count ≤ 1000000) → Spec Tryz.prog 45 [.agg (iRow x a len cap).toArray, S nm, .int .i64 (d : Int), .bool f, .bool r] [rtr x (eRow x a len cap)] [] (fun v D' M' => ∃ (a' : Option Addr) (len' cap' : Nat), v = .slice a' len' cap' ∧ (len' = x.count) ∧ D' = [] ∧ M' = [own 7 149 a' len' cap' ((toldT x nm d f r).map nrow)])
set_option maxHeartbeats 400000 in
theorem told_spec_step (x : Tr) (ih : ∀ y ∈ x.ks, ToldS y) (a : Option Addr) (len cap : Nat) (nm : List UInt8) (d : Nat) (f r : Bool) (hc : d + x.count ≤ 1000000) : Spec Tryz.prog 45 [.agg (iRow x a len cap).toArray, S nm, .int .i64 (d : Int), .bool f, .bool r] [rtr x (eRow x a len cap)] [] (fun v D' M' => ∃ (a' : Option Addr) (len' cap' : Nat), v = .slice a' len' cap' ∧ (len' = x.count) ∧ D' = [] ∧ M' = [own 7 149 a' len' cap' ((toldT x nm d f r).map nrow)]) := by
 refine Spec.intro (n := 63) Tryz.func45 rfl rfl (by decide) (Nat.le_of_ble_eq_true rfl) rfl (fun _ => qA) (fun _ => qA) ?_
 intro σ D M
 refine T.trOpenR qM (fun rows hkl hrl => ?_)
 subst hkl
 refine T.kidRows qM (fun hrw => ?_)
 have hcx := x.count_eq
 have hcl := count_le_len x.ks
 obtain ⟨TT, hTT⟩ : ∃ T0, toldT x nm d f r = T0 := ⟨_, rfl⟩
 rw [hTT]
 refine T.seq (T.region ?_)
 refine L.box rfl rfl rfl (fun b5 => ?_)
 refine L.assign rfl rfl ?_
 refine L.nil ?_
 refine T.thenN (T.seq (T.region ?_))
 refine L.move rfl rfl ?_
 refine L.move rfl rfl ?_
 first | refine L.field0 rfl fo24_0 rfl ?_ | refine L.field rfl fo24_0 rfl ?_
 refine L.load rfl sc3 rfl qC ?_
 first | refine L.field0 rfl fo24_1 rfl ?_ | refine L.field rfl fo24_1 rfl ?_
 refine L.load rfl sc9 rfl qC ?_
 first | refine L.field0 rfl fo24_2 rfl ?_ | refine L.field rfl fo24_2 rfl ?_
 refine L.load rfl sc22 rfl qC ?_
 refine L.lenSl rfl Tryz.underlying22 rfl ?_
 refine L.gtI rfl rfl rfl ?_
 rw [show decide ((0 : Int) < (x.ks.length : Int)) = decide (0 < x.ks.length) from by simp]
 refine L.move rfl rfl ?_
 refine L.move rfl rfl ?_
 refine L.build rfl bu149 (BP.one rfl rfl rfl <| BP.one rfl rfl rfl <| BP.one rfl rfl rfl <| BP.one rfl rfl rfl <| BP.one rfl rfl rfl <| BP.one rfl rfl rfl <| BP.one rfl rfl rfl <| BP.doneE (out := []) rfl) ?_
 refine L.buildSlice rfl bs47 (by decide) (BP.agg rfl rfl (by first | with_reducible assumption | (simp; done) | (simp only [List.length_map]; with_reducible assumption) | (simp [*]; done) | rfl) (Nat.le_of_ble_eq_true rfl) qR <| BP.doneE (out := []) rfl) (fun b27 => ?_)
 refine L.toOwn (len := 1) qP (rows := [⟨d, nm, x.k, x.t, decide (0 < x.ks.length), f, r⟩].map nrow) (sz := 7) (by rfl) rfl (by simp) ?_
 refine L.assign rfl rfl ?_
 refine L.nil ?_
 refine T.thenN (T.seq (T.seq ?_))
 refine T.freeze (A := cl b5 24 [.int .i64 x.k, S x.t, .slice a x.ks.length cap]) qP ?_
 refine T.region ?_
 first | refine L.field0 rfl fo24_2 rfl ?_ | refine L.field rfl fo24_2 rfl ?_
 refine L.load rfl sc22 rfl qC ?_
 refine L.lenSl rfl Tryz.underlying22 rfl ?_
 refine L.move rfl rfl ?_
 refine L.nil ?_
 refine T.thenN (T.block ?_)
 refine T.loop (fun K' D' M' μ => ∃ (a1 : Option Addr) (l1 c1 i : Nat) (acc : List Nd), (i ≤ x.ks.length ∧ l1 = 1 + countL (x.ks.take i) ∧ ToldI x (d + 1) i [⟨d, nm, x.k, x.t, decide (0 < x.ks.length), f, r⟩] acc) ∧ K' = [(11, .slice a1 l1 c1), (31, .int .i64 i)] ∧ D' = [] ∧ M' = [own 7 149 a1 l1 c1 (acc.map nrow)] ∧ μ = x.ks.length - i) (.cons (t := 2) rfl <| .cons (t := 5) rfl <| .cons (t := 29) rfl <| .cons (t := 30) rfl <| SubK.nil _) (⟨_, _, _, 0, [⟨d, nm, x.k, x.t, decide (0 < x.ks.length), f, r⟩], ⟨by omega, by simp [countL], ToldI.zero _ _ _⟩, rfl, rfl, rfl, rfl⟩) (.cons (t := 11) rfl <| .cons (t := 31) rfl <| SubK.nil _) qD qS ?_
 rintro K1 D1 M1 m1 ⟨a1, l1, c1, i, acc, ⟨hi, hl1, hI⟩, rfl, rfl, rfl, rfl⟩
 refine T.norm3 qA qA qA ?_
 refine T.seq (T.region ?_)
 refine L.ltI rfl rfl rfl ?_
 refine L.nil ?_
 refine T.thenN (T.seq ?_)
 refine T.cond rfl (fun h32 => ?_) (fun h32 => ?_)
 ·try simp only [dq] at h32
  refine T.skip (T.thenN (T.seq (T.block (T.seq ?_))))
  have hy : x.ks[i]? = some (gd x.ks i) := gd_get (by omega)
  obtain ⟨y, hyy⟩ : ∃ y, y = gd x.ks i := ⟨_, rfl⟩
  rw [← hyy] at hy
  refine T.kidOpen qM hy (fun ka kl kc hr => ?_)
  have hcs := countL_step hy
  have hcy := count_pos y
  refine T.region ?_
  refine L.move rfl rfl ?_
  refine L.idx (i := i) rfl Tryz.underlying22 sz142 rfl rfl qM (by first | rfl | omega | (simp; done)) qG (fun b34 o34 => ?_)
  refine L.loadA rfl ag142 rfl qN ?_
  refine L.alloc rfl ze142 (fun b13 => ?_)
  refine L.assign rfl rfl ?_
  refine L.storeA ag142 rfl rfl qL qO qU qW ?_
  refine L.nil ?_
  refine T.freeze (A := cl b13 142 (eRow y ka kl kc)) qP ?_
  refine T.rslAddr qM (show rows ≠ [] from fun e => by rw [e] at hrl; simp at hrl; omega) (fun bo oo ha => ?_)
  subst ha
  refine T.thenN ?_
  refine T.cutC (fun K' D' M' => ∃ (a2 : Option Addr) (l2 c2 : Nat), (l2 = l1 + y.count) ∧ K' = [(11, .slice a2 l2 c2)] ∧ D' = [] ∧ M' = [own 7 149 a2 l2 c2 ((acc ++ toldT y y.n (d + 1) (decide (i = 0)) (risT x.ks i y)).map nrow)]) (M0 := [own 7 149 a1 l1 c1 (acc.map nrow)]) (.cons (t := 2) rfl <| .cons (t := 5) rfl <| .cons (t := 29) rfl <| .cons (t := 30) rfl <| .cons (t := 31) rfl <| SubK.nil _) qS ?_ ?_
  ·skip
   rcases Nat.eq_zero_or_pos i with h0 | h0
   ·skip
    have hrz : risT x.ks i y = false := by subst h0; rfl
    refine T.regionA (clsL [1, 1, 1, 1, 1, 1, 1, 1, 1, 1, 1, 1, 1, 1, 1, 1, 1, 1, 1, 1, 1, 1, 1, 2, 2, 2]) qk ?_
    refine A.takeP (i := 0) rfl rfl rfl rfl qk qk qk rfl qD ?_
    refine L.move rfl rfl ?_
    refine A.took ?_
    refine A.takeP (i := 1) rfl rfl rfl rfl qk qk qk rfl qD ?_
    first | refine L.field0 rfl fo142_1 rfl ?_ | refine L.field rfl fo142_1 rfl ?_
    refine A.took ?_
    refine A.takeP (i := 2) rfl rfl rfl rfl qk qk qk rfl qD ?_
    refine L.loadA rfl ag24 rfl qN ?_
    refine A.took ?_
    refine A.takeP (i := 3) rfl rfl rfl rfl qk qk qk rfl qD ?_
    first | refine L.field0 rfl fo142_0 rfl ?_ | refine L.field rfl fo142_0 rfl ?_
    refine A.took ?_
    refine A.takeP (i := 4) rfl rfl rfl rfl qk qk qk rfl qD ?_
    refine L.load rfl sc9 rfl qC ?_
    refine A.took ?_
    refine A.takeP (i := 5) rfl rfl rfl rfl qk qk qk rfl qD ?_
    refine L.move rfl rfl ?_
    refine A.took ?_
    refine A.takeP (i := 6) rfl rfl rfl rfl qk qk qk rfl qD ?_
    refine L.addN rfl rfl rfl (by omega) ?_
    refine A.took ?_
    refine A.takeP (i := 7) rfl rfl rfl rfl qk qk qk rfl qD ?_
    refine L.move rfl rfl ?_
    refine A.took ?_
    refine A.takeP (i := 8) rfl rfl rfl rfl qk qk qk rfl qD ?_
    refine L.eqI rfl rfl rfl ?_
    refine A.took ?_
    refine A.takeP (i := 9) rfl rfl rfl rfl qk qk qk rfl qD ?_
    refine L.move rfl rfl ?_
    refine A.took ?_
    refine A.takeP (i := 10) rfl rfl rfl rfl qk qk qk rfl qD ?_
    refine L.gtI rfl rfl rfl ?_
    refine A.took ?_
    refine A.takeP (i := 11) rfl rfl rfl rfl qk qk qk rfl qD ?_
    refine L.move rfl rfl ?_
    refine A.took ?_
    refine A.known (t := 47) rfl (show _ = Value.bool false from congrArg Value.bool (decide_eq_false (by omega))) ?_
    refine A.takeP (i := 12) rfl rfl rfl rfl qk qk qk rfl qD ?_
    refine L.guardF (dj := 47) (c := false) rfl rfl rfl rfl rfl (by decide) ?_
    refine A.took ?_
    refine A.takeP (i := 13) rfl rfl rfl rfl qk qk qk rfl qD ?_
    refine L.guardF (dj := 47) (c := false) rfl rfl rfl rfl rfl (by decide) ?_
    refine A.took ?_
    refine A.takeP (i := 14) rfl rfl rfl rfl qk qk qk rfl qD ?_
    refine L.guardF (dj := 47) (c := false) rfl rfl rfl rfl rfl (by decide) ?_
    refine A.took ?_
    refine A.takeP (i := 15) rfl rfl rfl rfl qk qk qk rfl qD ?_
    refine L.guardF (dj := 47) (c := false) rfl rfl rfl rfl rfl (by decide) ?_
    refine A.took ?_
    refine A.takeP (i := 16) rfl rfl rfl rfl qk qk qk rfl qD ?_
    refine L.guardF (dj := 47) (c := false) rfl rfl rfl rfl rfl (by decide) ?_
    refine A.took ?_
    refine A.takeP (i := 17) rfl rfl rfl rfl qk qk qk rfl qD ?_
    refine L.guardF (dj := 47) (c := false) rfl rfl rfl rfl rfl (by decide) ?_
    refine A.took ?_
    refine A.takeP (i := 18) rfl rfl rfl rfl qk qk qk rfl qD ?_
    refine L.guardF (dj := 47) (c := false) rfl rfl rfl rfl rfl (by decide) ?_
    refine A.took ?_
    refine A.takeP (i := 19) rfl rfl rfl rfl qk qk qk rfl qD ?_
    refine L.guardF (dj := 47) (c := false) rfl rfl rfl rfl rfl (by decide) ?_
    refine A.took ?_
    refine A.takeP (i := 20) rfl rfl rfl rfl qk qk qk rfl qD ?_
    refine L.guardF (dj := 47) (c := false) rfl rfl rfl rfl rfl (by decide) ?_
    refine A.took ?_
    refine A.takeP (i := 21) rfl rfl rfl rfl qk qk qk rfl qD ?_
    refine L.guardF (dj := 47) (c := false) rfl rfl rfl rfl rfl (by decide) ?_
    refine A.took ?_
    refine A.takeP (i := 22) rfl rfl rfl rfl qk qk qk rfl qD ?_
    refine L.pickF rfl rfl rfl ?_
    refine A.took ?_
    refine A.branch (is := [23]) qk (by decide) (Each.cons rfl ?_ <| Each.nil) 
    refine L.call rfl (evs.cons rfl <| evs.cons rfl <| evs.cons rfl <| evs.cons rfl <| evs.cons rfl <| evs.nil) qD qS (ih y (kid_mem hy) ka kl kc y.n (d + 1) _ _ (by omega)) ?_
    rintro _ _ _ ⟨ta, tl, tc, rfl, htl, rfl, rfl⟩
    refine L.norm qA qA ?_
    refine A.backT rfl qD ?_
    refine A.branch (is := [24]) qk (by decide) (Each.cons rfl ?_ <| Each.nil) 
    refine L.appendR rfl Tryz.underlying47 Tryz.underlying47 el149 rfl rfl qP (rd_M qM) nd_one qI qI (fun a60 c60 => ?_)
    refine A.backT rfl qD ?_
    refine A.branch (is := [25]) qk (by decide) (Each.cons rfl ?_ <| Each.nil) 
    refine L.assign rfl rfl ?_
    refine A.backT rfl qD ?_
    refine A.done qk ?_
    refine T.ownEq _ ((acc ++ toldT y y.n (d + 1) (decide (i = 0)) (risT x.ks i y)).map nrow) qP (by rw [List.map_append, hrz, show decide ((i : Int) = 0) = decide (i = 0) from by simp]) ?_
    refine T.thenN ?_
    exact T.toJoin ⟨_, _, _, (by omega), rfl, rfl, rfl⟩ (.cons (t := 11) rfl <| SubK.nil _) (.cons (t := 2) rfl <| .cons (t := 5) rfl <| .cons (t := 29) rfl <| .cons (t := 30) rfl <| .cons (t := 31) rfl <| SubK.nil _) qD qD qF
   ·skip
    have hrz := ris_pos (y := y) h0 hi
    obtain ⟨pa, pl, pc, hpr⟩ := hrw (i - 1) (gd x.ks (i - 1)) (gd_get (by omega))
    refine T.regionA (clsL [1, 1, 1, 1, 1, 1, 1, 1, 1, 1, 1, 1, 1, 1, 1, 1, 1, 1, 1, 1, 1, 1, 1, 2, 2, 2]) qk ?_
    refine A.takeP (i := 0) rfl rfl rfl rfl qk qk qk rfl qD ?_
    refine L.move rfl rfl ?_
    refine A.took ?_
    refine A.takeP (i := 1) rfl rfl rfl rfl qk qk qk rfl qD ?_
    first | refine L.field0 rfl fo142_1 rfl ?_ | refine L.field rfl fo142_1 rfl ?_
    refine A.took ?_
    refine A.takeP (i := 2) rfl rfl rfl rfl qk qk qk rfl qD ?_
    refine L.loadA rfl ag24 rfl qN ?_
    refine A.took ?_
    refine A.takeP (i := 3) rfl rfl rfl rfl qk qk qk rfl qD ?_
    first | refine L.field0 rfl fo142_0 rfl ?_ | refine L.field rfl fo142_0 rfl ?_
    refine A.took ?_
    refine A.takeP (i := 4) rfl rfl rfl rfl qk qk qk rfl qD ?_
    refine L.load rfl sc9 rfl qC ?_
    refine A.took ?_
    refine A.takeP (i := 5) rfl rfl rfl rfl qk qk qk rfl qD ?_
    refine L.move rfl rfl ?_
    refine A.took ?_
    refine A.takeP (i := 6) rfl rfl rfl rfl qk qk qk rfl qD ?_
    refine L.addN rfl rfl rfl (by omega) ?_
    refine A.took ?_
    refine A.takeP (i := 7) rfl rfl rfl rfl qk qk qk rfl qD ?_
    refine L.move rfl rfl ?_
    refine A.took ?_
    refine A.takeP (i := 8) rfl rfl rfl rfl qk qk qk rfl qD ?_
    refine L.eqI rfl rfl rfl ?_
    refine A.took ?_
    refine A.takeP (i := 9) rfl rfl rfl rfl qk qk qk rfl qD ?_
    refine L.move rfl rfl ?_
    refine A.took ?_
    refine A.takeP (i := 10) rfl rfl rfl rfl qk qk qk rfl qD ?_
    refine L.gtI rfl rfl rfl ?_
    refine A.took ?_
    refine A.takeP (i := 11) rfl rfl rfl rfl qk qk qk rfl qD ?_
    refine L.move rfl rfl ?_
    refine A.took ?_
    refine A.known (t := 47) rfl (show _ = Value.bool true from congrArg Value.bool (decide_eq_true (by omega))) ?_
    refine A.takeP (i := 12) rfl rfl rfl rfl qk qk qk rfl qD ?_
    refine L.guardT (dj := 47) rfl rfl rfl ?_
    first | refine L.field0 rfl fo24_2 rfl ?_ | refine L.field rfl fo24_2 rfl ?_
    refine A.took ?_
    refine A.takeP (i := 13) rfl rfl rfl rfl qk qk qk rfl qD ?_
    refine L.guardT (dj := 47) rfl rfl rfl ?_
    refine L.load rfl sc22 rfl qC ?_
    refine A.took ?_
    refine A.takeP (i := 14) rfl rfl rfl rfl qk qk qk rfl qD ?_
    refine L.guardT (dj := 47) rfl rfl rfl ?_
    refine L.move rfl rfl ?_
    refine A.took ?_
    refine A.takeP (i := 15) rfl rfl rfl rfl qk qk qk rfl qD ?_
    refine L.guardT (dj := 47) rfl rfl rfl ?_
    refine L.subN rfl rfl rfl (by omega) ?_
    refine A.took ?_
    refine A.takeP (i := 16) rfl rfl rfl rfl qk qk qk rfl qD ?_
    refine L.guardT (dj := 47) rfl rfl rfl ?_
    refine L.idxR (i := i - 1) rfl Tryz.underlying22 sz142 rfl rfl qM (by first | rfl | omega | (simp; done)) qI qG ?_
    refine A.took ?_
    refine A.takeP (i := 17) rfl rfl rfl rfl qk qk qk rfl qD ?_
    refine L.guardT (dj := 47) rfl rfl rfl ?_
    first | refine L.field0 rfl fo142_0 rfl ?_ | refine L.field rfl fo142_0 rfl ?_
    refine A.took ?_
    refine A.takeP (i := 18) rfl rfl rfl rfl qk qk qk rfl qD ?_
    refine L.guardT (dj := 47) rfl rfl rfl ?_
    refine L.load rfl sc9 rfl qC ?_
    refine A.took ?_
    refine A.takeP (i := 19) rfl rfl rfl rfl qk qk qk rfl qD ?_
    refine L.guardT (dj := 47) rfl rfl rfl ?_
    first | refine L.field0 rfl fo142_0 rfl ?_ | refine L.field rfl fo142_0 rfl ?_
    refine A.took ?_
    refine A.takeP (i := 20) rfl rfl rfl rfl qk qk qk rfl qD ?_
    refine L.guardT (dj := 47) rfl rfl rfl ?_
    refine L.load rfl sc9 rfl qC ?_
    refine A.took ?_
    refine A.takeP (i := 21) rfl rfl rfl rfl qk qk qk rfl qD ?_
    refine L.guardT (dj := 47) rfl rfl rfl ?_
    refine L.ltS rfl rfl rfl ?_
    refine A.took ?_
    refine A.takeP (i := 22) rfl rfl rfl rfl qk qk qk rfl qD ?_
    refine L.pickT rfl rfl rfl ?_
    refine A.took ?_
    refine A.branch (is := [23]) qk (by decide) (Each.cons rfl ?_ <| Each.nil) 
    refine L.call rfl (evs.cons rfl <| evs.cons rfl <| evs.cons rfl <| evs.cons rfl <| evs.cons rfl <| evs.nil) qD qS (ih y (kid_mem hy) ka kl kc y.n (d + 1) _ _ (by omega)) ?_
    rintro _ _ _ ⟨ta, tl, tc, rfl, htl, rfl, rfl⟩
    refine L.norm qA qA ?_
    refine A.backT rfl qD ?_
    refine A.branch (is := [24]) qk (by decide) (Each.cons rfl ?_ <| Each.nil) 
    refine L.appendR rfl Tryz.underlying47 Tryz.underlying47 el149 rfl rfl qP (rd_M qM) nd_one qI qI (fun a60 c60 => ?_)
    refine A.backT rfl qD ?_
    refine A.branch (is := [25]) qk (by decide) (Each.cons rfl ?_ <| Each.nil) 
    refine L.assign rfl rfl ?_
    refine A.backT rfl qD ?_
    refine A.done qk ?_
    refine T.ownEq _ ((acc ++ toldT y y.n (d + 1) (decide (i = 0)) (risT x.ks i y)).map nrow) qP (by rw [List.map_append, hrz, show decide ((i : Int) = 0) = decide (i = 0) from by simp]) ?_
    refine T.thenN ?_
    exact T.toJoin ⟨_, _, _, (by omega), rfl, rfl, rfl⟩ (.cons (t := 11) rfl <| SubK.nil _) (.cons (t := 2) rfl <| .cons (t := 5) rfl <| .cons (t := 29) rfl <| .cons (t := 30) rfl <| .cons (t := 31) rfl <| SubK.nil _) qD qD qF
  rintro _ _ _ ⟨a2, l2, c2, hl2, rfl, rfl, rfl⟩
  refine T.norm3 qA qA qA ?_
  refine T.blkN (T.thenN (T.region ?_))
  refine L.addN rfl rfl rfl (by omega) ?_
  refine L.move rfl rfl ?_
  refine L.nil ?_
  refine T.thenN ?_
  exact T.back ⟨a2, l2, c2, i + 1, acc ++ toldT y y.n (d + 1) (decide (i = 0)) (risT x.ks i y), ⟨by omega, by omega, hI.step hy⟩, rfl, rfl, rfl, rfl⟩ qI (.cons (t := 11) rfl <| .cons (t := 31) rfl <| SubK.nil _) (.cons (t := 2) rfl <| .cons (t := 5) rfl <| .cons (t := 29) rfl <| .cons (t := 30) rfl <| SubK.nil _) qD qD qF
 ·try simp only [dq] at h32
  obtain rfl : i = x.ks.length := by omega
  rw [countL_all (Nat.le_refl _)] at hl1
  refine T.exit (T.thenX (T.thenX (T.blkX (T.thenN (T.seq (T.region ?_))))))
  refine L.move rfl rfl ?_
  refine L.assign rfl rfl ?_
  refine L.nil ?_
  refine T.thenN (T.ret ?_)
  have hst := hI.stop (Nat.le_refl _)
  obtain rfl : TT = acc := by rw [← hTT, toldT_eq, hst]; rfl
  exact T.ret1 rfl rfl ⟨_, _, _, rfl, by omega, rfl, rfl⟩ qD qF
theorem told_spec (x : Tr) : ToldS x := Tr.ind (p := ToldS) (fun x ih a len cap nm d f r hc => told_spec_step x ih a len cap nm d f r hc) x
set_option maxHeartbeats 400000 in
theorem Told_spec {x : Tr} (a : Option Addr) (len cap : Nat) (hc : x.count ≤ 900000) : Spec Tryz.prog 12 [.agg (iRow x a len cap).toArray] [rtr x (eRow x a len cap)] [] (fun v D' M' => ∃ (a' : Option Addr) (len' cap' : Nat), v = .slice a' len' cap' ∧ (len' = x.count) ∧ D' = [] ∧ M' = [own 7 149 a' len' cap' ((toldT x [] 1 true true).map nrow)]) := by
 refine Spec.intro (n := 5) Tryz.func12 rfl rfl (by decide) (Nat.le_of_ble_eq_true rfl) rfl (fun _ => qA) (fun _ => qA) ?_
 intro σ D M
 refine T.seq (T.region ?_)
 refine L.box rfl rfl rfl (fun b1 => ?_)
 refine L.assign rfl rfl ?_
 refine L.nil ?_
 refine T.thenN (T.seq (T.region ?_))
 refine L.loadA rfl ag24 rfl qN ?_
 refine L.call rfl (evs.cons rfl <| evs.cons rfl <| evs.cons rfl <| evs.cons rfl <| evs.cons rfl <| evs.nil) qD qS (told_spec x a len cap [] 1 true true (by omega)) ?_
 rintro _ _ _ ⟨ta, tl, tc, rfl, htl, rfl, rfl⟩
 refine L.norm qA qA ?_
 refine L.assign rfl rfl ?_
 refine L.nil ?_
 refine T.thenN (T.ret ?_)
 exact T.ret1 rfl rfl ⟨_, _, _, rfl, htl, rfl, rfl⟩ qD qF
end Cv
