/-
  The walks: the law of those that answer right.
-/
import Derived.Test.YtcfhpmijippbmaaGreatSf25
import Derived.Test.YtcfhpmijippbmaaGreatProg
import Derived.KernelRfl
set_option linter.unusedVariables false
set_option linter.unusedSimpArgs false
set_option linter.unusedSectionVars false
set_option maxRecDepth 10000
namespace Cv
open Go Go.Proofs
theorem zv41 : ∀ w, (zeroValue 41).run Tryz.prog w = .ok (Value.agg #[Value.int .i64 0, Value.int .i64 0, Value.int .i64 0, Value.slice none 0 0, Value.slice none 0 0, S []]) w := fun w => by kernel_rfl
theorem ze41 : Ze Tryz.prog 41 [Value.int .i64 0, Value.int .i64 0, Value.int .i64 0, Value.slice none 0 0, Value.slice none 0 0, S []] := ⟨_, rfl, zv41⟩
set_option maxHeartbeats 1000000 in
theorem swapjust_law (za : Option Addr) (zn zc : Nat) (zs : List AR25) (hz : zs.length = zn)  : Spec Tryz.prog 4 [.slice za zn zc] [rsl 6 za zn zc (zs.map aE), aA zs] [] (fun v D' M' => v = .bool true ∧ D' = [] ∧ M' = []) := by
  refine Spec.intro (n := 91) Tryz.func4 rfl rfl (by decide) (Nat.le_of_ble_eq_true rfl) rfl (fun _ => qA) (fun _ => qA) ?_
  intro σ D M
  skip
  refine T.seq ?_
  refine T.region ?_
  refine L.assign rfl rfl ?_
  refine L.nil ?_
  refine T.thenN ?_
  refine T.seq ?_
  refine T.seq ?_
  refine T.region ?_
  refine L.call rfl (evs.nil) qD qS (awake25_spec) ?_
  rintro _ _ _ ⟨rfl, rfl, rfl⟩
  refine L.norm qA qA ?_
  refine L.notB rfl rfl ?_
  refine L.nil ?_
  refine T.thenN ?_
  refine T.condF rfl rfl ?_
  refine T.skip ?_
  refine T.thenN ?_
  refine T.seq ?_
  refine T.region ?_
  refine L.build rfl bu29 (BP.one rfl rfl rfl <| BP.one rfl rfl rfl <| BP.doneE (out := []) rfl) ?_
  refine L.call rfl (evs.cons rfl <| evs.cons rfl <| evs.nil) qD qS (wnew_spec) ?_
  rintro _ _ _ ⟨b, bb, q, lm, rfl, rfl, rfl⟩
  refine L.norm qA qA ?_
  refine L.eqv qP (show bookA bb (fun _ => zM) = bookA bb (atM ([] : List (Int × Mind))) from rfl) ?_
  refine L.move rfl rfl ?_
  refine L.extract rfl rfl rfl ?_
  refine L.extract rfl rfl rfl ?_
  refine L.assign rfl rfl ?_
  refine L.assign rfl rfl ?_
  refine L.nil ?_
  refine T.thenN ?_
  refine T.seq ?_
  refine T.region ?_
  refine L.move rfl rfl ?_
  refine L.build rfl bu34 (BP.one rfl rfl rfl <| BP.doneE (out := [Value.int .i64 0, Value.slice none 0 0, Value.slice none 0 0, Value.slice none 0 0]) rfl) ?_
  refine L.build rfl bu36 (BP.one rfl rfl rfl <| BP.agg rfl rfl (by first | with_reducible assumption | (simp; done) | (simp only [List.length_map]; with_reducible assumption) | (simp [*]; done) | rfl) (Nat.le_of_ble_eq_true rfl) qR <| BP.doneE (out := [Value.int .i64 0]) rfl) ?_
  refine L.alloc rfl ze36 (fun b5 => ?_)
  refine L.storeA ag36 rfl rfl qL qO qU qW ?_
  refine L.nil ?_
  refine T.newOwn (sz := 6) (e := 47) ?_
  refine T.eqv qP (show own 6 47 none 0 0 [] = own 6 47 none 0 0 (([] : List Ord).map oR) from rfl) ?_
  refine T.ownRsl (rows := ([] : List Ord).map oR) qP ?_
  refine T.newOwn (sz := 3) (e := 141) ?_
  refine T.eqv qP (show own 3 141 none 0 0 [] = own 3 141 none 0 0 (([] : List (LK × Int)).map kR) from rfl) ?_
  refine T.ownRsl (rows := ([] : List (LK × Int)).map kR) qP ?_
  refine T.newOwn (sz := 8) (e := 108) ?_
  refine T.eqv qP (show own 8 108 none 0 0 [] = own 8 108 none 0 0 (([] : List (Int × Mind)).map rrow) from rfl) ?_
  refine T.ownRsl (rows := ([] : List (Int × Mind)).map rrow) qP ?_
  refine T.thenN ?_
  refine T.seq ?_
  refine T.seq ?_
  refine T.region ?_
  refine L.assign rfl rfl ?_
  refine L.nil ?_
  refine T.thenN ?_
  refine T.block ?_
  refine T.loop (fun K' D' M' μ => ∃ (i : Nat) (s : SS) (sa oa la ma : Option Addr) (sn sc on oc ln lc mn mc : Nat), ((i ≤ zn ∧ i ≤ 60) ∧ SInv s i ∧ (atM s.ml 5).2.2.2 = none) ∧ K' = [(6, .int .i64 i)] ∧ D' = [rsl 6 oa on oc (s.ol.map oR), rsl 3 la ln lc (s.ll.map kR), rsl 8 ma mn mc (s.ml.map rrow)] ∧ M' = [cl b5 36 (stC b 1 s.sq oa on oc la ln lc ma mn mc s.now), cl b 59 (swC bb q 1 sa sn sc lm s.sq), own 37 96 sa sn sc ((s.ol).map oC), bookA bb (atM s.ml), mp lm lkK iK s.lk] ∧ μ = 60 - i) (.cons (t := 0) rfl <| .cons (t := 5) rfl <| SubK.nil _) (⟨0, ⟨[], [], [], [], 0, 0⟩, none, none, none, none, 0, 0, 0, 0, 0, 0, 0, 0, ⟨by omega, SInv.init, rfl⟩, rfl, rfl, rfl, rfl⟩) (.cons (t := 6) rfl <| SubK.nil _) qD qS ?_
  rintro K1 D1 M1 m1 ⟨i, s, sa, oa, la, ma, sn, sc, on, oc, ln, lc, mn, mc, ⟨⟨hi, hi60⟩, hI0, hN0⟩, rfl, rfl, rfl, rfl⟩
  refine T.norm3 qA qA qA ?_
  have hO := hI0.o
  have hO8 := hO.lo
  refine T.rslLen2 (rows := s.ol.map oR) qM (fun hol hoc => ?_)
  rw [List.length_map] at hol
  refine T.seq ?_
  refine T.seq ?_
  refine T.cutC (fun K' D' M' => ∃ (w : Bool), (w = true ↔ (i < zn ∧ i < 60)) ∧ K' = [(28, .bool w)] ∧ D' = [] ∧ M' = []) (M0 := []) (.cons (t := 0) rfl <| .cons (t := 5) rfl <| .cons (t := 6) rfl <| SubK.nil _) qS ?_ ?_
  · skip
    refine T.region ?_
    refine L.move rfl rfl ?_
    refine L.move rfl rfl ?_
    refine L.lenSl rfl Tryz.underlying22 rfl ?_
    refine L.ltI rfl rfl rfl ?_
    refine L.move rfl rfl ?_
    refine L.part (t := 25) rfl (fun h1 => ?_) (fun h1 => ?_)
    · try simp only [decide_eq_true_eq, decide_eq_false_iff_not, Bool.not_eq_true', Bool.not_eq_false', Bool.and_eq_true, Bool.or_eq_true] at h1
      refine L.guardT (dj := 25) rfl rfl rfl ?_
      refine L.move rfl rfl ?_
      refine L.guardT (dj := 25) rfl rfl rfl ?_
      refine L.ltI rfl rfl rfl ?_
      refine L.pickT rfl rfl rfl ?_
      refine L.nil ?_
      refine T.thenN ?_
      exact T.toJoin ⟨_, (by simp; omega), rfl, rfl, rfl⟩ (.cons (t := 28) rfl <| SubK.nil _) (.cons (t := 0) rfl <| .cons (t := 5) rfl <| .cons (t := 6) rfl <| SubK.nil _) qD qD qF
    · try simp only [decide_eq_true_eq, decide_eq_false_iff_not, Bool.not_eq_true', Bool.not_eq_false', Bool.and_eq_true, Bool.or_eq_true] at h1
      refine L.guardF (dj := 25) (c := false) rfl rfl rfl rfl rfl (by decide) ?_
      refine L.guardF (dj := 25) (c := false) rfl rfl rfl rfl rfl (by decide) ?_
      refine L.pickF rfl rfl rfl ?_
      refine L.nil ?_
      refine T.thenN ?_
      exact T.toJoin ⟨_, (by simp; omega), rfl, rfl, rfl⟩ (.cons (t := 28) rfl <| SubK.nil _) (.cons (t := 0) rfl <| .cons (t := 5) rfl <| .cons (t := 6) rfl <| SubK.nil _) qD qD qF
  rintro _ _ _ ⟨w, hw, rfl, rfl, rfl⟩
  refine T.norm3 qA qA qA ?_
  refine T.thenN ?_
  refine T.cond rfl (fun h28 => ?_) (fun h28 => ?_)
  · try simp only [decide_eq_true_eq, decide_eq_false_iff_not, Bool.not_eq_true', Bool.not_eq_false', Bool.and_eq_true, Bool.or_eq_true] at h28
    have hwt := hw.1 h28
    have hgi : zs[i]? = some (gd zs i) := gd_get (by omega)
    obtain ⟨z, hzz⟩ : ∃ x, x = gd zs i := ⟨_, rfl⟩
    rw [← hzz] at hgi
    have hgz : (zs.map aE)[i]? = some (aE z) := map_get hgi
    refine T.derive (φ := aA zs) (ψ := rsl 1 z.2.1.1 z.2.1.2.1 z.2.1.2.2.1 (z.2.1.2.2.2.map e3)) qM (fun h H => (H z (List.mem_of_getElem? hgi)).1) ?_
    refine T.derive (φ := aA zs) (ψ := rsl 1 z.2.2.1.1 z.2.2.1.2.1 z.2.2.1.2.2.1 (z.2.2.1.2.2.2.map e3)) qM (fun h H => (H z (List.mem_of_getElem? hgi)).2.1) ?_
    refine T.fact (φ := aA zs) qM (fun h H => (H z (List.mem_of_getElem? hgi)).2.2) (fun hzb => ?_)
    obtain ⟨hz1, hz2⟩ := hzb
    refine T.skip ?_
    refine T.thenN ?_
    refine T.seq ?_
    refine T.block ?_
    refine T.seq ?_
    refine T.region ?_
    refine L.move rfl rfl ?_
    refine L.move rfl rfl ?_
    refine L.idx (i := i) rfl Tryz.underlying22 sz41 rfl rfl qM (by first | rfl | omega | (simp; done)) qG (fun b33 o33 => ?_)
    refine L.loadA rfl ag41 rfl qN ?_
    refine L.alloc rfl ze41 (fun b7 => ?_)
    refine L.storeA ag41 rfl rfl qL qO qU qW ?_
    refine L.nil ?_
    refine T.thenN ?_
    refine T.seq ?_
    refine T.seq ?_
    refine T.cutC (fun K' D' M' => ∃ (w : Bool), (w = true ↔ JQ s z) ∧ K' = [(70, .bool w)] ∧ D' = [] ∧ M' = [cl b5 36 (stC b 1 s.sq oa on oc la ln lc ma mn mc s.now), cl b7 41 (aE z)]) (M0 := [cl b5 36 (stC b 1 s.sq oa on oc la ln lc ma mn mc s.now), cl b7 41 (aE z)]) (.cons (t := 0) rfl <| .cons (t := 5) rfl <| .cons (t := 6) rfl <| .cons (t := 7) rfl <| SubK.nil _) qS ?_ ?_
    · skip
      rcases (show ¬ z.1.1 = 2 ∨ (z.1.1 = 2 ∧ ¬ 0 < s.ol.length) ∨ (z.1.1 = 2 ∧ 0 < s.ol.length) by omega) with h1 | ⟨h1, h2⟩ | ⟨h1, h2⟩
      · skip
        skip
        refine T.regionQ (by kernel_rfl) (by kernel_rfl) ?_
        first | refine L.field0 rfl fo41_0 rfl ?_ | refine L.field rfl fo41_0 rfl ?_
        refine L.load rfl sc3 rfl qC ?_
        refine L.eqI rfl rfl rfl ?_
        refine L.move rfl rfl ?_
        refine L.known (t := 38) rfl (show _ = Value.bool false from congrArg Value.bool (decide_eq_false h1)) ?_
        refine L.guardF (dj := 38) (c := false) rfl rfl rfl rfl rfl (by decide) ?_
        refine L.guardF (dj := 38) (c := false) rfl rfl rfl rfl rfl (by decide) ?_
        refine L.guardF (dj := 38) (c := false) rfl rfl rfl rfl rfl (by decide) ?_
        refine L.guardF (dj := 38) (c := false) rfl rfl rfl rfl rfl (by decide) ?_
        refine L.guardF (dj := 38) (c := false) rfl rfl rfl rfl rfl (by decide) ?_
        refine L.pickF rfl rfl rfl ?_
        refine L.move rfl rfl ?_
        refine L.guardF (dj := 45) (c := false) rfl rfl rfl rfl rfl (by decide) ?_
        refine L.guardF (dj := 45) (c := false) rfl rfl rfl rfl rfl (by decide) ?_
        refine L.guardF (dj := 45) (c := false) rfl rfl rfl rfl rfl (by decide) ?_
        refine L.guardF (dj := 45) (c := false) rfl rfl rfl rfl rfl (by decide) ?_
        refine L.guardF (dj := 45) (c := false) rfl rfl rfl rfl rfl (by decide) ?_
        refine L.guardF (dj := 45) (c := false) rfl rfl rfl rfl rfl (by decide) ?_
        refine L.guardF (dj := 45) (c := false) rfl rfl rfl rfl rfl (by decide) ?_
        refine L.guardF (dj := 45) (c := false) rfl rfl rfl rfl rfl (by decide) ?_
        refine L.guardF (dj := 45) (c := false) rfl rfl rfl rfl rfl (by decide) ?_
        refine L.guardF (dj := 45) (c := false) rfl rfl rfl rfl rfl (by decide) ?_
        refine L.guardF (dj := 45) (c := false) rfl rfl rfl rfl rfl (by decide) ?_
        refine L.guardF (dj := 45) (c := false) rfl rfl rfl rfl rfl (by decide) ?_
        refine L.guardF (dj := 45) (c := false) rfl rfl rfl rfl rfl (by decide) ?_
        refine L.guardF (dj := 45) (c := false) rfl rfl rfl rfl rfl (by decide) ?_
        refine L.guardF (dj := 45) (c := false) rfl rfl rfl rfl rfl (by decide) ?_
        refine L.guardF (dj := 45) (c := false) rfl rfl rfl rfl rfl (by decide) ?_
        refine L.guardF (dj := 45) (c := false) rfl rfl rfl rfl rfl (by decide) ?_
        refine L.guardF (dj := 45) (c := false) rfl rfl rfl rfl rfl (by decide) ?_
        refine L.guardF (dj := 45) (c := false) rfl rfl rfl rfl rfl (by decide) ?_
        refine L.guardF (dj := 45) (c := false) rfl rfl rfl rfl rfl (by decide) ?_
        refine L.guardF (dj := 45) (c := false) rfl rfl rfl rfl rfl (by decide) ?_
        refine L.guardF (dj := 45) (c := false) rfl rfl rfl rfl rfl (by decide) ?_
        refine L.guardF (dj := 45) (c := false) rfl rfl rfl rfl rfl (by decide) ?_
        refine L.guardF (dj := 45) (c := false) rfl rfl rfl rfl rfl (by decide) ?_
        refine L.pickF rfl rfl rfl ?_
        refine L.nilQ ?_
        refine T.thenN ?_
        exact T.toJoin ⟨_, ⟨fun e => (by cases e), fun e => absurd e.1 h1⟩, rfl, rfl, rfl⟩ (.cons (t := 70) rfl <| SubK.nil _) (.cons (t := 0) rfl <| .cons (t := 5) rfl <| .cons (t := 6) rfl <| .cons (t := 7) rfl <| SubK.nil _) qD qD qF
      · skip
        skip
        refine T.regionQ (by kernel_rfl) (by kernel_rfl) ?_
        first | refine L.field0 rfl fo41_0 rfl ?_ | refine L.field rfl fo41_0 rfl ?_
        refine L.load rfl sc3 rfl qC ?_
        refine L.eqI rfl rfl rfl ?_
        refine L.move rfl rfl ?_
        refine L.known (t := 38) rfl (show _ = Value.bool true from congrArg Value.bool (decide_eq_true h1)) ?_
        refine L.guardT (dj := 38) rfl rfl rfl ?_
        first | refine L.field0 rfl fo36_1 rfl ?_ | refine L.field rfl fo36_1 rfl ?_
        refine L.guardT (dj := 38) rfl rfl rfl ?_
        first | refine L.field0 rfl fo34_2 rfl ?_ | refine L.field rfl fo34_2 rfl ?_
        refine L.guardT (dj := 38) rfl rfl rfl ?_
        refine L.load rfl sc30 rfl qC ?_
        refine L.guardT (dj := 38) rfl rfl rfl ?_
        refine L.lenSl rfl Tryz.underlying30 rfl ?_
        refine L.guardT (dj := 38) rfl rfl rfl ?_
        refine L.gtI rfl rfl rfl ?_
        refine L.pickT rfl rfl rfl ?_
        refine L.move rfl rfl ?_
        refine L.known (t := 45) rfl (show _ = Value.bool false from congrArg Value.bool (decide_eq_false (by omega))) ?_
        refine L.guardF (dj := 45) (c := false) rfl rfl rfl rfl rfl (by decide) ?_
        refine L.guardF (dj := 45) (c := false) rfl rfl rfl rfl rfl (by decide) ?_
        refine L.guardF (dj := 45) (c := false) rfl rfl rfl rfl rfl (by decide) ?_
        refine L.guardF (dj := 45) (c := false) rfl rfl rfl rfl rfl (by decide) ?_
        refine L.guardF (dj := 45) (c := false) rfl rfl rfl rfl rfl (by decide) ?_
        refine L.guardF (dj := 45) (c := false) rfl rfl rfl rfl rfl (by decide) ?_
        refine L.guardF (dj := 45) (c := false) rfl rfl rfl rfl rfl (by decide) ?_
        refine L.guardF (dj := 45) (c := false) rfl rfl rfl rfl rfl (by decide) ?_
        refine L.guardF (dj := 45) (c := false) rfl rfl rfl rfl rfl (by decide) ?_
        refine L.guardF (dj := 45) (c := false) rfl rfl rfl rfl rfl (by decide) ?_
        refine L.guardF (dj := 45) (c := false) rfl rfl rfl rfl rfl (by decide) ?_
        refine L.guardF (dj := 45) (c := false) rfl rfl rfl rfl rfl (by decide) ?_
        refine L.guardF (dj := 45) (c := false) rfl rfl rfl rfl rfl (by decide) ?_
        refine L.guardF (dj := 45) (c := false) rfl rfl rfl rfl rfl (by decide) ?_
        refine L.guardF (dj := 45) (c := false) rfl rfl rfl rfl rfl (by decide) ?_
        refine L.guardF (dj := 45) (c := false) rfl rfl rfl rfl rfl (by decide) ?_
        refine L.guardF (dj := 45) (c := false) rfl rfl rfl rfl rfl (by decide) ?_
        refine L.guardF (dj := 45) (c := false) rfl rfl rfl rfl rfl (by decide) ?_
        refine L.guardF (dj := 45) (c := false) rfl rfl rfl rfl rfl (by decide) ?_
        refine L.guardF (dj := 45) (c := false) rfl rfl rfl rfl rfl (by decide) ?_
        refine L.guardF (dj := 45) (c := false) rfl rfl rfl rfl rfl (by decide) ?_
        refine L.guardF (dj := 45) (c := false) rfl rfl rfl rfl rfl (by decide) ?_
        refine L.guardF (dj := 45) (c := false) rfl rfl rfl rfl rfl (by decide) ?_
        refine L.guardF (dj := 45) (c := false) rfl rfl rfl rfl rfl (by decide) ?_
        refine L.pickF rfl rfl rfl ?_
        refine L.nilQ ?_
        refine T.thenN ?_
        exact T.toJoin ⟨_, ⟨fun e => (by cases e), fun e => absurd e.2.1 h2⟩, rfl, rfl, rfl⟩ (.cons (t := 70) rfl <| SubK.nil _) (.cons (t := 0) rfl <| .cons (t := 5) rfl <| .cons (t := 6) rfl <| .cons (t := 7) rfl <| SubK.nil _) qD qD qF
      · skip
        obtain ⟨j, hjl, hj⟩ := pick_at (n := z.1.2.1) h2
        rw [hol] at hj
        have htb := tmod_bd z.1.2.1 (k := (on : Int)) (by omega)
        have hgi2 : s.ol[j]? = some (gd s.ol j) := gd_get (by omega)
        obtain ⟨x, hx_⟩ : ∃ x, x = gd s.ol j := ⟨_, rfl⟩
        rw [← hx_] at hgi2
        have hgo : (s.ol.map oR)[j]? = some (oR x) := map_get hgi2
        have hpk : gd s.ol (pickN s.ol z.1.2.1) = x := by unfold pickN; rw [hol, hj, hx_]; rfl
        refine T.rslAddr (a := oa) (rows := s.ol.map oR) qM (fun e => by have h2 := congrArg List.length e; rw [List.length_map, List.length_nil] at h2; omega) (fun po qo hoa => ?_)
        subst hoa
        skip
        refine T.regionQ (by kernel_rfl) (by kernel_rfl) ?_
        first | refine L.field0 rfl fo41_0 rfl ?_ | refine L.field rfl fo41_0 rfl ?_
        refine L.load rfl sc3 rfl qC ?_
        refine L.eqI rfl rfl rfl ?_
        refine L.move rfl rfl ?_
        refine L.known (t := 38) rfl (show _ = Value.bool true from congrArg Value.bool (decide_eq_true h1)) ?_
        refine L.guardT (dj := 38) rfl rfl rfl ?_
        first | refine L.field0 rfl fo36_1 rfl ?_ | refine L.field rfl fo36_1 rfl ?_
        refine L.guardT (dj := 38) rfl rfl rfl ?_
        first | refine L.field0 rfl fo34_2 rfl ?_ | refine L.field rfl fo34_2 rfl ?_
        refine L.guardT (dj := 38) rfl rfl rfl ?_
        refine L.load rfl sc30 rfl qC ?_
        refine L.guardT (dj := 38) rfl rfl rfl ?_
        refine L.lenSl rfl Tryz.underlying30 rfl ?_
        refine L.guardT (dj := 38) rfl rfl rfl ?_
        refine L.gtI rfl rfl rfl ?_
        refine L.pickT rfl rfl rfl ?_
        refine L.move rfl rfl ?_
        refine L.known (t := 45) rfl (show _ = Value.bool true from congrArg Value.bool (decide_eq_true (by omega))) ?_
        refine L.guardT (dj := 45) rfl rfl rfl ?_
        first | refine L.field0 rfl fo36_1 rfl ?_ | refine L.field rfl fo36_1 rfl ?_
        refine L.guardT (dj := 45) rfl rfl rfl ?_
        first | refine L.field0 rfl fo34_2 rfl ?_ | refine L.field rfl fo34_2 rfl ?_
        refine L.guardT (dj := 45) rfl rfl rfl ?_
        refine L.load rfl sc30 rfl qC ?_
        refine L.guardT (dj := 45) rfl rfl rfl ?_
        first | refine L.field0 rfl fo41_1 rfl ?_ | refine L.field rfl fo41_1 rfl ?_
        refine L.guardT (dj := 45) rfl rfl rfl ?_
        refine L.load rfl sc3 rfl qC ?_
        refine L.guardT (dj := 45) rfl rfl rfl ?_
        first | refine L.field0 rfl fo36_1 rfl ?_ | refine L.field rfl fo36_1 rfl ?_
        refine L.guardT (dj := 45) rfl rfl rfl ?_
        first | refine L.field0 rfl fo34_2 rfl ?_ | refine L.field rfl fo34_2 rfl ?_
        refine L.guardT (dj := 45) rfl rfl rfl ?_
        refine L.load rfl sc30 rfl qC ?_
        refine L.guardT (dj := 45) rfl rfl rfl ?_
        refine L.lenSl rfl Tryz.underlying30 rfl ?_
        refine L.guardT (dj := 45) rfl rfl rfl ?_
        refine L.remI rfl rfl rfl (by omega) ?_
        refine L.guardT (dj := 45) rfl rfl rfl ?_
        first | refine L.field0 rfl fo36_1 rfl ?_ | refine L.field rfl fo36_1 rfl ?_
        refine L.guardT (dj := 45) rfl rfl rfl ?_
        first | refine L.field0 rfl fo34_2 rfl ?_ | refine L.field rfl fo34_2 rfl ?_
        refine L.guardT (dj := 45) rfl rfl rfl ?_
        refine L.load rfl sc30 rfl qC ?_
        refine L.guardT (dj := 45) rfl rfl rfl ?_
        refine L.lenSl rfl Tryz.underlying30 rfl ?_
        refine L.guardT (dj := 45) rfl rfl rfl ?_
        refine L.addN rfl rfl rfl (by omega) ?_
        refine L.guardT (dj := 45) rfl rfl rfl ?_
        first | refine L.field0 rfl fo36_1 rfl ?_ | refine L.field rfl fo36_1 rfl ?_
        refine L.guardT (dj := 45) rfl rfl rfl ?_
        first | refine L.field0 rfl fo34_2 rfl ?_ | refine L.field rfl fo34_2 rfl ?_
        refine L.guardT (dj := 45) rfl rfl rfl ?_
        refine L.load rfl sc30 rfl qC ?_
        refine L.guardT (dj := 45) rfl rfl rfl ?_
        refine L.lenSl rfl Tryz.underlying30 rfl ?_
        refine L.guardT (dj := 45) rfl rfl rfl ?_
        refine L.remI rfl rfl rfl (by omega) ?_
        refine L.known (t := 65) (u := .int .i64 (j : Int)) rfl (by rw [← hj]) ?_
        refine L.guardT (dj := 45) rfl rfl rfl ?_
        refine L.idxG (i := j) rfl Tryz.underlying30 sz47 rfl rfl (by first | rfl | omega | (simp; done)) qI ?_
        refine L.guardT (dj := 45) rfl rfl rfl ?_
        first | refine L.field0 rfl fo47_1 rfl ?_ | refine L.field rfl fo47_1 rfl ?_
        refine L.guardT (dj := 45) rfl rfl rfl ?_
        refine L.load rfl sc3 rfl qC ?_
        refine L.guardT (dj := 45) rfl rfl rfl ?_
        refine L.eqI rfl rfl rfl ?_
        refine L.pickT rfl rfl rfl ?_
        refine L.nilQ ?_
        refine T.thenN ?_
        exact T.toJoin ⟨_, ⟨fun e => ⟨h1, h2, by rw [hpk]; exact of_decide_eq_true e⟩, fun e => decide_eq_true (by have := e.2.2; rw [hpk] at this; exact this)⟩, rfl, rfl, rfl⟩ (.cons (t := 70) rfl <| SubK.nil _) (.cons (t := 0) rfl <| .cons (t := 5) rfl <| .cons (t := 6) rfl <| .cons (t := 7) rfl <| SubK.nil _) qD qD qF
    rintro _ _ _ ⟨w, hwq, rfl, rfl, rfl⟩
    refine T.norm3 qA qA qA ?_
    refine T.thenN ?_
    refine T.cutC (fun K' D' M' => ∃ (tx : List UInt8), (z.1.1 = 2 → 0 < s.ol.length → (gd s.ol (pickN s.ol z.1.2.1)).2.1 = 5 → tx = []) ∧ K' = [] ∧ D' = [] ∧ M' = [cl b7 41 (aE (z.1, z.2.1, z.2.2.1, tx))]) (M0 := [cl b7 41 (aE z)]) (.cons (t := 0) rfl <| .cons (t := 5) rfl <| .cons (t := 6) rfl <| .cons (t := 7) rfl <| SubK.nil _) qS ?_ ?_
    · skip
      refine T.cond rfl (fun h70 => ?_) (fun h70 => ?_)
      · try simp only [decide_eq_true_eq, decide_eq_false_iff_not, Bool.not_eq_true', Bool.not_eq_false', Bool.and_eq_true, Bool.or_eq_true] at h70
        refine T.region ?_
        first | refine L.field0 rfl fo41_5 rfl ?_ | refine L.field rfl fo41_5 rfl ?_
        refine L.store sc9 rfl rfl rfl qU qE ?_
        refine L.nil ?_
        refine T.clEq b7 (aE (z.1, z.2.1, z.2.2.1, [])) qP (by rfl) ?_
        refine T.thenN ?_
        exact T.toJoin ⟨[], fun _ _ _ => rfl, rfl, rfl, rfl⟩ (SubK.nil _) (.cons (t := 0) rfl <| .cons (t := 5) rfl <| .cons (t := 6) rfl <| .cons (t := 7) rfl <| SubK.nil _) qD qD qF
      · try simp only [decide_eq_true_eq, decide_eq_false_iff_not, Bool.not_eq_true', Bool.not_eq_false', Bool.and_eq_true, Bool.or_eq_true] at h70
        refine T.skip ?_
        refine T.thenN ?_
        exact T.toJoin ⟨z.2.2.2, fun e1 e2 e3 => absurd (hwq.2 ⟨e1, e2, e3⟩) (by rw [h70]; decide), rfl, rfl, rfl⟩ (SubK.nil _) (.cons (t := 0) rfl <| .cons (t := 5) rfl <| .cons (t := 6) rfl <| .cons (t := 7) rfl <| SubK.nil _) qD qD qF
    rintro _ _ _ ⟨tx, hyj, rfl, rfl, rfl⟩
    refine T.norm3 qA qA qA ?_
    refine T.thenN ?_
    refine T.seq ?_
    refine T.region ?_
    refine L.assign rfl rfl ?_
    refine L.nil ?_
    refine T.thenN ?_
    refine T.seq ?_
    refine T.region ?_
    refine L.loadA rfl ag36 rfl qN ?_
    refine L.loadA rfl ag41 rfl qN ?_
    refine L.call rfl (evs.cons rfl <| evs.cons rfl <| evs.nil) qD qS (does_spec (i := i) (s := s) (z := (z.1, z.2.1, z.2.2.1, tx)) hI0 (by omega) hz1 hz2) ?_
    rintro _ _ _ ⟨t, sa2, oa2, la2, ma2, sn2, sc2, on2, oc2, ln2, lc2, mn2, mc2, rfl, hI2, hJ2, rfl, rfl⟩
    refine L.norm qA qA ?_
    have hJ3 := hJ2 hyj hN0
    refine L.move rfl rfl ?_
    refine L.extract rfl rfl rfl ?_
    refine L.extract rfl rfl rfl ?_
    refine L.storeA ag36 rfl rfl qL qO qU qW ?_
    refine L.assign rfl rfl ?_
    refine L.nil ?_
    refine T.thenN ?_
    refine T.seq ?_
    refine T.region ?_
    refine L.move rfl rfl ?_
    refine L.notB rfl rfl ?_
    refine L.nil ?_
    refine T.thenN ?_
    refine T.condF rfl rfl ?_
    refine T.skip ?_
    refine T.blkN ?_
    refine T.thenN ?_
    refine T.region ?_
    refine L.move rfl rfl ?_
    refine L.addN rfl rfl rfl (by omega) ?_
    refine L.assign rfl rfl ?_
    refine L.nil ?_
    refine T.thenN ?_
    exact T.back ⟨i + 1, t, _, _, _, _, _, _, _, _, _, _, _, _, ⟨by omega, hI2, hJ3⟩, rfl, rfl, rfl, rfl⟩ qI (.cons (t := 6) rfl <| SubK.nil _) (.cons (t := 0) rfl <| .cons (t := 5) rfl <| SubK.nil _) qD qD qF
  · try simp only [decide_eq_true_eq, decide_eq_false_iff_not, Bool.not_eq_true', Bool.not_eq_false', Bool.and_eq_true, Bool.or_eq_true] at h28
    have hwf : ¬ (i < zn ∧ i < 60) := fun e => by have := hw.2 e; rw [h28] at this; cases this
    refine T.exit ?_
    refine T.thenX ?_
    refine T.thenX ?_
    refine T.blkX ?_
    refine T.thenN ?_
    refine T.seq ?_
    refine T.region ?_
    first | refine L.field0 rfl fo36_0 rfl ?_ | refine L.field rfl fo36_0 rfl ?_
    refine L.load rfl sc24 rfl qC ?_
    refine L.nilCheck rfl rfl ?_
    first | refine L.field0 rfl fo59_0 rfl ?_ | refine L.field rfl fo59_0 rfl ?_
    refine L.load rfl sc54 rfl qC ?_
    refine L.call rfl (evs.cons rfl <| evs.cons rfl <| evs.nil) qD qS (banned_spec (F := atM s.ml)) ?_
    rintro _ _ _ ⟨rfl, rfl, rfl⟩
    refine L.norm qA qA ?_
    have hb34 : (pcells ((atM s.ml 5).2.2.2.getD zP)).length = 34 := by rw [hN0]; rfl
    refine L.move rfl rfl ?_
    refine L.extract rfl rfl rfl ?_
    refine L.extract rfl rfl rfl ?_
    refine L.alloc rfl ze65 (fun b9 => ?_)
    refine L.storeA ag65 rfl rfl qL qO qU qW ?_
    refine L.assign rfl rfl ?_
    refine L.nil ?_
    refine T.thenN ?_
    refine T.seq ?_
    refine T.region ?_
    refine L.move rfl rfl ?_
    refine L.notB rfl rfl ?_
    refine L.known (t := 90) (u := .bool true) rfl (by rw [hN0]; rfl) ?_
    refine L.assign rfl rfl ?_
    refine L.nil ?_
    refine T.thenN ?_
    refine T.ret ?_
    exact T.ret1 rfl rfl ⟨rfl, rfl, rfl⟩ qD qF
end Cv
