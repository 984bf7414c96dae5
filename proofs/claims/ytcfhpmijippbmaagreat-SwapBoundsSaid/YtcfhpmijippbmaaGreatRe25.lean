/-
  The walks: the reference's clock.
-/
import Derived.Test.YtcfhpmijippbmaaGreatRd25
import Derived.Test.YtcfhpmijippbmaaGreatProg
import Derived.KernelRfl
set_option linter.unusedVariables false
set_option linter.unusedSimpArgs false
set_option linter.unusedSectionVars false
set_option maxRecDepth 10000
namespace Cv
open Go Go.Proofs
theorem fo47_3 : Fo Tryz.prog 47 3 5 := fun a w => by kernel_rfl
theorem fo141_2 : Fo Tryz.prog 141 2 2 := fun a w => by kernel_rfl
set_option maxHeartbeats 1000000 in
theorem rtick_spec {o sq : Int} {oa la ma : Option Addr} {on oc ln lc mn mc : Nat} {ol : List Ord} {ll : List (LK × Int)} {ml : List (Int × Mind)} {now : Int} (hon : on ≤ 400) (hln : ln ≤ 1000000) (hml : ml.length ≤ 600) (hmk : ∀ k, MOk (atM ml k)) (h0 : 0 ≤ now) (h9 : now ≤ 100000000) (hx : ∀ x ∈ ol, -1000000 ≤ x.2.2.2 ∧ x.2.2.2 ≤ 1000000000) : Spec Tryz.prog 29 [.agg (xC o sq oa on oc la ln lc ma mn mc).toArray, .int .i64 now] [rsl 6 oa on oc (ol.map oR), rsl 3 la ln lc (ll.map kR), rsl 8 ma mn mc (ml.map rrow)] [] (fun v D' M' => ∃ (a1 a2 a3 : Option Addr) (l1 c1 l2 c2 l3 c3 : Nat), v = .agg (xC o sq a1 l1 c1 a2 l2 c2 a3 l3 c3).toArray ∧ ((ol.filter (fun x => !lateB now x)).length = l1) ∧ ((ll.filter (fun e => decide (now < e.2))).length = l2) ∧ D' = [rsl 6 a1 l1 c1 ((ol.filter (fun x => !lateB now x)).map oR), rsl 3 a2 l2 c2 ((ll.filter (fun e => decide (now < e.2))).map kR), rsl 8 a3 l3 c3 ((delS (lateB now) (silL now) ml ol).map rrow)] ∧ M' = []) := by
  refine Spec.intro (n := 58) Tryz.func29 rfl rfl (by decide) (Nat.le_of_ble_eq_true rfl) rfl (fun _ => qA) (fun _ => qA) ?_
  intro σ D M
  refine T.rslLen2 (rows := ol.map oR) qM (fun hol hoc => ?_)
  rw [List.length_map] at hol
  refine T.rslLen2 (rows := ll.map kR) qM (fun hll hlc => ?_)
  rw [List.length_map] at hll
  refine T.seq ?_
  refine T.region ?_
  refine L.box rfl rfl rfl (fun b2 => ?_)
  refine L.alloc rfl ze34 (fun b4 => ?_)
  refine L.nil ?_
  refine T.thenN ?_
  refine T.seq ?_
  refine T.region ?_
  refine L.buildSlice rfl bs30 (by decide) (BP.doneE (out := []) rfl) (fun b11 => ?_)
  refine L.toOwn (len := 0) qP (rows := ([] : List Ord).map oR) (sz := 6) (by rfl) rfl (by simp) ?_
  refine L.assign rfl rfl ?_
  refine L.nil ?_
  refine T.thenN ?_
  refine T.seq ?_
  refine T.seq ?_
  refine T.region ?_
  first | refine L.field0 rfl fo34_2 rfl ?_ | refine L.field rfl fo34_2 rfl ?_
  refine L.load rfl sc30 rfl qC ?_
  refine L.lenSl rfl Tryz.underlying30 rfl ?_
  refine L.move rfl rfl ?_
  refine L.nil ?_
  refine T.thenN ?_
  refine T.block ?_
  refine T.loop (fun K' D' M' μ => ∃ (j : Nat) (a1 ma1 : Option Addr) (l1 c1 mn1 mc1 : Nat) (ml1 : List (Int × Mind)), ((j ≤ on ∧ l1 ≤ j ∧ ml1.length ≤ ml.length + j) ∧ ((ol.take j).filter (fun x => !lateB now x)).length = l1 ∧ ml1 = delS (lateB now) (silL now) ml (ol.take j)) ∧ K' = [(15, .int .i64 j), (5, .slice a1 l1 c1)] ∧ D' = [rsl 8 ma1 mn1 mc1 ((ml1).map rrow)] ∧ M' = [cl b2 34 (xC o sq oa on oc la ln lc ma1 mn1 mc1), own 6 47 a1 l1 c1 (((ol.take j).filter (fun x => !lateB now x)).map oR)] ∧ μ = on - j) (.cons (t := 1) rfl <| .cons (t := 2) rfl <| .cons (t := 4) rfl <| .cons (t := 13) rfl <| .cons (t := 14) rfl <| SubK.nil _) (⟨0, _, ma, 0, _, mn, mc, ml, ⟨by omega, by simp, by rw [List.take_zero]; rfl⟩, rfl, rfl, rfl, rfl⟩) (.cons (t := 15) rfl <| .cons (t := 5) rfl <| SubK.nil _) qD qS ?_
  rintro K1 D1 M1 m1 ⟨j, a1, ma1, l1, c1, mn1, mc1, ml1, ⟨⟨hj, hlj, hmj⟩, hl1, hm1⟩, rfl, rfl, rfl, rfl⟩
  refine T.norm3 qA qA qA ?_
  refine T.seq ?_
  refine T.region ?_
  refine L.ltI rfl rfl rfl ?_
  refine L.nil ?_
  refine T.thenN ?_
  refine T.seq ?_
  refine T.cond rfl (fun h16 => ?_) (fun h16 => ?_)
  · try simp only [decide_eq_true_eq, decide_eq_false_iff_not, Bool.not_eq_true', Bool.not_eq_false', Bool.and_eq_true, Bool.or_eq_true] at h16
    refine T.skip ?_
    refine T.thenN ?_
    refine T.seq ?_
    refine T.block ?_
    refine T.seq ?_
    obtain ⟨x, hgj⟩ := ex_get (l := ol) (k := j) (by omega)
    have hgo : (ol.map oR)[j]? = some (oR x) := map_get hgj
    have hxb := hx _ (List.mem_of_getElem? hgj)
    refine T.region ?_
    refine L.idx (i := j) rfl Tryz.underlying30 sz47 rfl rfl qM (by first | rfl | omega | (simp; done)) qG (fun b17 o17 => ?_)
    refine L.loadA rfl ag47 rfl qN ?_
    refine L.alloc rfl ze47 (fun b7 => ?_)
    refine L.storeA ag47 rfl rfl qL qO qU qW ?_
    refine L.nil ?_
    refine T.thenN ?_
    refine T.seq ?_
    refine T.region ?_
    refine L.move rfl rfl ?_
    first | refine L.field0 rfl fo47_3 rfl ?_ | refine L.field rfl fo47_3 rfl ?_
    refine L.load rfl sc3 rfl qC ?_
    refine L.subN rfl rfl rfl (by omega) ?_
    refine L.geI rfl rfl rfl ?_
    refine L.nil ?_
    refine T.thenN ?_
    refine T.cond rfl (fun h23 => ?_) (fun h23 => ?_)
    · try simp only [decide_eq_true_eq, decide_eq_false_iff_not, Bool.not_eq_true', Bool.not_eq_false', Bool.and_eq_true, Bool.or_eq_true] at h23
      have hlt : lateB now x = true := by unfold lateB; exact decide_eq_true h23
      refine T.region ?_
      first | refine L.field0 rfl fo34_4 rfl ?_ | refine L.field rfl fo34_4 rfl ?_
      refine L.load rfl sc32 rfl qC ?_
      first | refine L.field0 rfl fo47_1 rfl ?_ | refine L.field rfl fo47_1 rfl ?_
      refine L.load rfl sc3 rfl qC ?_
      refine L.move rfl rfl ?_
      refine L.call rfl (evs.cons rfl <| evs.cons rfl <| evs.cons rfl <| evs.nil) qD qS (rsil_spec (l := ml1) (n := x.2.1) (by omega) (by rw [hm1]; exact delS_ok h0 (by omega) hmk _) h0 (by omega)) ?_
      rintro _ _ _ ⟨ba, bl, bc, rfl, rfl, rfl⟩
      refine L.norm qA qA ?_
      first | refine L.field0 rfl fo34_4 rfl ?_ | refine L.field rfl fo34_4 rfl ?_
      refine L.store sc32 rfl rfl rfl qU qE ?_
      refine L.nil ?_
      refine T.blkN ?_
      refine T.thenN ?_
      refine T.region ?_
      refine L.addN rfl rfl rfl (by omega) ?_
      refine L.move rfl rfl ?_
      refine L.nil ?_
      refine T.thenN ?_
      refine T.ownEq a1 (((ol.take (j + 1)).filter (fun x => !lateB now x)).map oR) qP (by rw [fil_s0 hgj (by rw [hlt]; rfl)]) ?_
      exact T.back ⟨j + 1, _, _, l1, _, _, _, setL ml1 x.2.1 (silM (atM ml1 x.2.1) now), ⟨⟨by omega, by omega, by have := @setL_len ml1 x.2.1 (silM (atM ml1 x.2.1) now); omega⟩, by rw [fil_s0 hgj (by rw [hlt]; rfl)]; exact hl1, by rw [delS_s hgj, if_pos hlt, ← hm1]; rfl⟩, rfl, rfl, rfl, rfl⟩ qI (.cons (t := 15) rfl <| .cons (t := 5) rfl <| SubK.nil _) (.cons (t := 1) rfl <| .cons (t := 2) rfl <| .cons (t := 4) rfl <| .cons (t := 13) rfl <| .cons (t := 14) rfl <| SubK.nil _) qD qD qF
    · try simp only [decide_eq_true_eq, decide_eq_false_iff_not, Bool.not_eq_true', Bool.not_eq_false', Bool.and_eq_true, Bool.or_eq_true] at h23
      have hlt : lateB now x = false := by unfold lateB; exact decide_eq_false h23
      refine T.region ?_
      refine L.move rfl rfl ?_
      refine L.loadA rfl ag47 rfl qN ?_
      refine L.buildSlice rfl bs30 (by decide) (BP.agg rfl rfl (by first | with_reducible assumption | (simp; done) | (simp only [List.length_map]; with_reducible assumption) | (simp [*]; done) | rfl) (Nat.le_of_ble_eq_true rfl) qR <| BP.doneE (out := []) rfl) (fun b33 => ?_)
      refine L.append1 rfl Tryz.underlying30 el47 rfl rfl qP qM rfl qO1 qI qI (fun a34 c34 => ?_)
      refine L.assign rfl rfl ?_
      refine L.nil ?_
      refine T.blkN ?_
      refine T.thenN ?_
      refine T.region ?_
      refine L.addN rfl rfl rfl (by omega) ?_
      refine L.move rfl rfl ?_
      refine L.nil ?_
      refine T.thenN ?_
      refine T.ownEq a34 (((ol.take (j + 1)).filter (fun x => !lateB now x)).map oR) qP (by rw [fil_s1 hgj (by rw [hlt]; rfl), snocM]) ?_
      exact T.back ⟨j + 1, _, _, l1 + 1, _, _, _, ml1, ⟨⟨by omega, by omega, by omega⟩, by rw [fil_s1 hgj (by rw [hlt]; rfl), List.length_append, hl1]; rfl, by rw [delS_s hgj, if_neg (by rw [hlt]; decide)]; exact hm1⟩, rfl, rfl, rfl, rfl⟩ qI (.cons (t := 15) rfl <| .cons (t := 5) rfl <| SubK.nil _) (.cons (t := 1) rfl <| .cons (t := 2) rfl <| .cons (t := 4) rfl <| .cons (t := 13) rfl <| .cons (t := 14) rfl <| SubK.nil _) qD qD qF
  · try simp only [decide_eq_true_eq, decide_eq_false_iff_not, Bool.not_eq_true', Bool.not_eq_false', Bool.and_eq_true, Bool.or_eq_true] at h16
    obtain rfl : on = j := by omega
    rw [List.take_of_length_le (by omega)] at hl1 hm1
    subst hm1
    refine T.exit ?_
    refine T.thenX ?_
    refine T.thenX ?_
    refine T.blkX ?_
    refine T.thenN ?_
    refine T.seq ?_
    refine T.region ?_
    refine L.move rfl rfl ?_
    first | refine L.field0 rfl fo34_2 rfl ?_ | refine L.field rfl fo34_2 rfl ?_
    refine L.store sc30 rfl rfl rfl qU qE ?_
    refine L.nil ?_
    refine T.ownEq _ ((ol.filter (fun x => !lateB now x)).map oR) qP (by rw [List.take_of_length_le (by omega)]) ?_
    refine T.ownRsl (rows := (ol.filter (fun x => !lateB now x)).map oR) qP ?_
    refine T.thenN ?_
    refine T.seq ?_
    refine T.region ?_
    refine L.buildSlice rfl bs31 (by decide) (BP.doneE (out := []) rfl) (fun b38 => ?_)
    refine L.toOwn (len := 0) qP (rows := ([] : List (LK × Int)).map kR) (sz := 3) (by rfl) rfl (by simp) ?_
    refine L.assign rfl rfl ?_
    refine L.nil ?_
    refine T.thenN ?_
    refine T.seq ?_
    refine T.seq ?_
    refine T.region ?_
    first | refine L.field0 rfl fo34_3 rfl ?_ | refine L.field rfl fo34_3 rfl ?_
    refine L.load rfl sc31 rfl qC ?_
    refine L.lenSl rfl Tryz.underlying31 rfl ?_
    refine L.move rfl rfl ?_
    refine L.nil ?_
    refine T.thenN ?_
    refine T.block ?_
    refine T.loop (fun K' D' M' μ => ∃ (k : Nat) (a2 : Option Addr) (l2 c2 : Nat), ((k ≤ ln ∧ l2 ≤ k) ∧ ((ll.take k).filter (fun e => decide (now < e.2))).length = l2) ∧ K' = [(42, .int .i64 k), (8, .slice a2 l2 c2)] ∧ D' = [] ∧ M' = [own 3 141 a2 l2 c2 (((ll.take k).filter (fun e => decide (now < e.2))).map kR)] ∧ μ = ln - k) (.cons (t := 1) rfl <| .cons (t := 2) rfl <| .cons (t := 4) rfl <| .cons (t := 40) rfl <| .cons (t := 41) rfl <| SubK.nil _) (⟨0, _, 0, _, ⟨by omega, by simp⟩, rfl, rfl, rfl, rfl⟩) (.cons (t := 42) rfl <| .cons (t := 8) rfl <| SubK.nil _) qD qS ?_
    rintro K1 D1 M1 m1 ⟨k, a2, l2, c2, ⟨⟨hk, hlk⟩, hl2⟩, rfl, rfl, rfl, rfl⟩
    refine T.norm3 qA qA qA ?_
    refine T.seq ?_
    refine T.region ?_
    refine L.ltI rfl rfl rfl ?_
    refine L.nil ?_
    refine T.thenN ?_
    refine T.seq ?_
    refine T.cond rfl (fun h43 => ?_) (fun h43 => ?_)
    · try simp only [decide_eq_true_eq, decide_eq_false_iff_not, Bool.not_eq_true', Bool.not_eq_false', Bool.and_eq_true, Bool.or_eq_true] at h43
      refine T.skip ?_
      refine T.thenN ?_
      refine T.seq ?_
      refine T.block ?_
      refine T.seq ?_
      obtain ⟨e, hgk⟩ := ex_get (l := ll) (k := k) (by omega)
      have hgo : (ll.map kR)[k]? = some (kR e) := map_get hgk
      refine T.region ?_
      refine L.idx (i := k) rfl Tryz.underlying31 sz141 rfl rfl qM (by first | rfl | omega | (simp; done)) qG (fun b44 o44 => ?_)
      refine L.loadA rfl ag141 rfl qN ?_
      refine L.alloc rfl ze141 (fun b10 => ?_)
      refine L.storeA ag141 rfl rfl qL qO qU qW ?_
      refine L.nil ?_
      refine T.thenN ?_
      refine T.seq ?_
      refine T.region ?_
      first | refine L.field0 rfl fo141_2 rfl ?_ | refine L.field rfl fo141_2 rfl ?_
      refine L.load rfl sc3 rfl qC ?_
      refine L.move rfl rfl ?_
      refine L.gtI rfl rfl rfl ?_
      refine L.nil ?_
      refine T.thenN ?_
      refine T.cond rfl (fun h49 => ?_) (fun h49 => ?_)
      · try simp only [decide_eq_true_eq, decide_eq_false_iff_not, Bool.not_eq_true', Bool.not_eq_false', Bool.and_eq_true, Bool.or_eq_true] at h49
        have hke : decide (now < e.2) = true := decide_eq_true (by omega)
        refine T.region ?_
        refine L.move rfl rfl ?_
        refine L.loadA rfl ag141 rfl qN ?_
        refine L.buildSlice rfl bs31 (by decide) (BP.agg rfl rfl (by first | with_reducible assumption | (simp; done) | (simp only [List.length_map]; with_reducible assumption) | (simp [*]; done) | rfl) (Nat.le_of_ble_eq_true rfl) qR <| BP.doneE (out := []) rfl) (fun b52 => ?_)
        refine L.append1 rfl Tryz.underlying31 el141 rfl rfl qP qM rfl qO1 qI qI (fun a53 c53 => ?_)
        refine L.assign rfl rfl ?_
        refine L.nil ?_
        refine T.blkN ?_
        refine T.thenN ?_
        refine T.region ?_
        refine L.addN rfl rfl rfl (by omega) ?_
        refine L.move rfl rfl ?_
        refine L.nil ?_
        refine T.thenN ?_
        refine T.ownEq a53 (((ll.take (k + 1)).filter (fun e => decide (now < e.2))).map kR) qP (by rw [fil_s1 hgk hke, snocM]) ?_
        exact T.back ⟨k + 1, _, l2 + 1, _, ⟨by omega, by rw [fil_s1 hgk hke, List.length_append, hl2]; rfl⟩, rfl, rfl, rfl, rfl⟩ qI (.cons (t := 42) rfl <| .cons (t := 8) rfl <| SubK.nil _) (.cons (t := 1) rfl <| .cons (t := 2) rfl <| .cons (t := 4) rfl <| .cons (t := 40) rfl <| .cons (t := 41) rfl <| SubK.nil _) qD qD qF
      · try simp only [decide_eq_true_eq, decide_eq_false_iff_not, Bool.not_eq_true', Bool.not_eq_false', Bool.and_eq_true, Bool.or_eq_true] at h49
        have hke : decide (now < e.2) = false := decide_eq_false (by omega)
        refine T.skip ?_
        refine T.blkN ?_
        refine T.thenN ?_
        refine T.region ?_
        refine L.addN rfl rfl rfl (by omega) ?_
        refine L.move rfl rfl ?_
        refine L.nil ?_
        refine T.thenN ?_
        refine T.ownEq a2 (((ll.take (k + 1)).filter (fun e => decide (now < e.2))).map kR) qP (by rw [fil_s0 hgk hke]) ?_
        exact T.back ⟨k + 1, _, l2, _, ⟨by omega, by rw [fil_s0 hgk hke]; exact hl2⟩, rfl, rfl, rfl, rfl⟩ qI (.cons (t := 42) rfl <| .cons (t := 8) rfl <| SubK.nil _) (.cons (t := 1) rfl <| .cons (t := 2) rfl <| .cons (t := 4) rfl <| .cons (t := 40) rfl <| .cons (t := 41) rfl <| SubK.nil _) qD qD qF
    · try simp only [decide_eq_true_eq, decide_eq_false_iff_not, Bool.not_eq_true', Bool.not_eq_false', Bool.and_eq_true, Bool.or_eq_true] at h43
      obtain rfl : ln = k := by omega
      rw [List.take_of_length_le (by omega)] at hl2
      refine T.exit ?_
      refine T.thenX ?_
      refine T.thenX ?_
      refine T.blkX ?_
      refine T.thenN ?_
      refine T.seq ?_
      refine T.region ?_
      refine L.move rfl rfl ?_
      first | refine L.field0 rfl fo34_3 rfl ?_ | refine L.field rfl fo34_3 rfl ?_
      refine L.store sc31 rfl rfl rfl qU qE ?_
      refine L.nil ?_
      refine T.ownEq _ ((ll.filter (fun e => decide (now < e.2))).map kR) qP (by rw [List.take_of_length_le (by omega)]) ?_
      refine T.ownRsl (rows := (ll.filter (fun e => decide (now < e.2))).map kR) qP ?_
      refine T.thenN ?_
      refine T.seq ?_
      refine T.region ?_
      refine L.loadA rfl ag34 rfl qN ?_
      refine L.storeA ag34 rfl rfl qL qO qU qW ?_
      refine L.nil ?_
      refine T.thenN ?_
      refine T.ret ?_
      exact T.retA rfl ag34 rfl qN ⟨_, _, _, _, _, _, _, _, _, rfl, hl1, hl2, rfl, rfl⟩ qD qF
set_option maxHeartbeats 400000 in
theorem rforget_spec {o sq : Int} {oa la ma : Option Addr} {on oc ln lc mn mc : Nat} {ol : List Ord} {wa : Option Addr} {wn wc : Nat} {ws : List Wnt} (hon : on ≤ 1000) (hwn : wn ≤ 1000) : Spec Tryz.prog 31 [.agg (xC o sq oa on oc la ln lc ma mn mc).toArray, .slice wa wn wc] [rsl 6 oa on oc (ol.map oR), rsl 3 wa wn wc (ws.map wR)] [] (fun v D' M' => ∃ (a1 : Option Addr) (l1 c1 : Nat), v = .agg (xC o sq a1 l1 c1 la ln lc ma mn mc).toArray ∧ ((ol.filter (keepB ws)).length = l1) ∧ D' = [rsl 6 a1 l1 c1 ((ol.filter (keepB ws)).map oR)] ∧ M' = []) := by
  refine Spec.intro (n := 44) Tryz.func31 rfl rfl (by decide) (Nat.le_of_ble_eq_true rfl) rfl (fun _ => qA) (fun _ => qA) ?_
  intro σ D M
  refine T.rslLen2 (rows := ol.map oR) qM (fun hol hoc => ?_)
  rw [List.length_map] at hol
  refine T.rslLen2 (rows := ws.map wR) qM (fun hwl hwc => ?_)
  rw [List.length_map] at hwl
  refine T.seq ?_
  refine T.region ?_
  refine L.box rfl rfl rfl (fun b2 => ?_)
  refine L.alloc rfl ze34 (fun b4 => ?_)
  refine L.nil ?_
  refine T.thenN ?_
  refine T.seq ?_
  refine T.region ?_
  refine L.buildSlice rfl bs30 (by decide) (BP.doneE (out := []) rfl) (fun b11 => ?_)
  refine L.toOwn (len := 0) qP (rows := ([] : List Ord).map oR) (sz := 6) (by rfl) rfl (by simp) ?_
  refine L.assign rfl rfl ?_
  refine L.nil ?_
  refine T.thenN ?_
  refine T.seq ?_
  refine T.seq ?_
  refine T.region ?_
  first | refine L.field0 rfl fo34_2 rfl ?_ | refine L.field rfl fo34_2 rfl ?_
  refine L.load rfl sc30 rfl qC ?_
  refine L.lenSl rfl Tryz.underlying30 rfl ?_
  refine L.move rfl rfl ?_
  refine L.nil ?_
  refine T.thenN ?_
  refine T.block ?_
  refine T.loop (fun K' D' M' μ => ∃ (j : Nat) (a1 : Option Addr) (l1 c1 : Nat), ((j ≤ on ∧ l1 ≤ j) ∧ ((ol.take j).filter (keepB ws)).length = l1) ∧ K' = [(15, .int .i64 j), (5, .slice a1 l1 c1)] ∧ D' = [] ∧ M' = [own 6 47 a1 l1 c1 (((ol.take j).filter (keepB ws)).map oR)] ∧ μ = on - j) (.cons (t := 1) rfl <| .cons (t := 2) rfl <| .cons (t := 4) rfl <| .cons (t := 13) rfl <| .cons (t := 14) rfl <| SubK.nil _) (⟨0, _, 0, _, ⟨by omega, by simp⟩, rfl, rfl, rfl, rfl⟩) (.cons (t := 15) rfl <| .cons (t := 5) rfl <| SubK.nil _) qD qS ?_
  rintro K1 D1 M1 m1 ⟨j, a1, l1, c1, ⟨⟨hj, hlj⟩, hl1⟩, rfl, rfl, rfl, rfl⟩
  refine T.norm3 qA qA qA ?_
  refine T.seq ?_
  refine T.region ?_
  refine L.ltI rfl rfl rfl ?_
  refine L.nil ?_
  refine T.thenN ?_
  refine T.seq ?_
  refine T.cond rfl (fun h16 => ?_) (fun h16 => ?_)
  · try simp only [decide_eq_true_eq, decide_eq_false_iff_not, Bool.not_eq_true', Bool.not_eq_false', Bool.and_eq_true, Bool.or_eq_true] at h16
    refine T.skip ?_
    refine T.thenN ?_
    refine T.seq ?_
    refine T.block ?_
    refine T.seq ?_
    obtain ⟨x, hgj⟩ := ex_get (l := ol) (k := j) (by omega)
    have hgo : (ol.map oR)[j]? = some (oR x) := map_get hgj
    refine T.region ?_
    refine L.idx (i := j) rfl Tryz.underlying30 sz47 rfl rfl qM (by first | rfl | omega | (simp; done)) qG (fun b17 o17 => ?_)
    refine L.loadA rfl ag47 rfl qN ?_
    refine L.alloc rfl ze47 (fun b7 => ?_)
    refine L.storeA ag47 rfl rfl qL qO qU qW ?_
    refine L.nil ?_
    refine T.thenN ?_
    refine T.seq ?_
    refine T.region ?_
    refine L.assign rfl rfl ?_
    refine L.nil ?_
    refine T.thenN ?_
    refine T.seq ?_
    refine T.seq ?_
    refine T.region ?_
    refine L.move rfl rfl ?_
    refine L.lenSl rfl Tryz.underlying68 rfl ?_
    refine L.move rfl rfl ?_
    refine L.nil ?_
    refine T.thenN ?_
    refine T.block ?_
    refine T.loop (fun K' D' M' μ => ∃ (k : Nat) (is : Bool), (k ≤ wn ∧ is = (ws.take k).any fun w => decide (w.2.1.1 = x.1.2.1.1)) ∧ K' = [(21, .int .i64 k), (8, .bool is)] ∧ D' = [] ∧ M' = [] ∧ μ = wn - k) (.cons (t := 1) rfl <| .cons (t := 2) rfl <| .cons (t := 4) rfl <| .cons (t := 5) rfl <| .cons (t := 7) rfl <| .cons (t := 13) rfl <| .cons (t := 14) rfl <| .cons (t := 15) rfl <| .cons (t := 19) rfl <| .cons (t := 20) rfl <| SubK.nil _) (⟨0, _, ⟨by omega, rfl⟩, rfl, rfl, rfl, rfl⟩) (.cons (t := 21) rfl <| .cons (t := 8) rfl <| SubK.nil _) qD qS ?_
    rintro K1 D1 M1 m1 ⟨k, is, ⟨hk, his⟩, rfl, rfl, rfl, rfl⟩
    refine T.norm3 qA qA qA ?_
    refine T.seq ?_
    refine T.region ?_
    refine L.ltI rfl rfl rfl ?_
    refine L.nil ?_
    refine T.thenN ?_
    refine T.seq ?_
    refine T.cond rfl (fun h22 => ?_) (fun h22 => ?_)
    · try simp only [decide_eq_true_eq, decide_eq_false_iff_not, Bool.not_eq_true', Bool.not_eq_false', Bool.and_eq_true, Bool.or_eq_true] at h22
      refine T.skip ?_
      refine T.thenN ?_
      refine T.seq ?_
      refine T.block ?_
      refine T.seq ?_
      obtain ⟨w, hgk⟩ := ex_get (l := ws) (k := k) (by omega)
      have hgw : (ws.map wR)[k]? = some (wR w) := map_get hgk
      refine T.region ?_
      refine L.idx (i := k) rfl Tryz.underlying68 sz45 rfl rfl qM (by first | rfl | omega | (simp; done)) qG (fun b23 o23 => ?_)
      refine L.loadA rfl ag45 rfl qN ?_
      refine L.alloc rfl ze45 (fun b10 => ?_)
      refine L.storeA ag45 rfl rfl qL qO qU qW ?_
      refine L.nil ?_
      refine T.thenN ?_
      rcases Bool.eq_false_or_eq_true is with h1 | h1
      · skip
        refine T.region ?_
        refine L.move rfl rfl ?_
        refine L.move rfl rfl ?_
        refine L.known (t := 26) rfl (show _ = Value.bool true from congrArg Value.bool (h1)) ?_
        refine L.guardF (dj := 26) (c := true) rfl rfl rfl rfl rfl (by decide) ?_
        refine L.guardF (dj := 26) (c := true) rfl rfl rfl rfl rfl (by decide) ?_
        refine L.guardF (dj := 26) (c := true) rfl rfl rfl rfl rfl (by decide) ?_
        refine L.guardF (dj := 26) (c := true) rfl rfl rfl rfl rfl (by decide) ?_
        refine L.guardF (dj := 26) (c := true) rfl rfl rfl rfl rfl (by decide) ?_
        refine L.guardF (dj := 26) (c := true) rfl rfl rfl rfl rfl (by decide) ?_
        refine L.pickT rfl rfl rfl ?_
        refine L.assign rfl rfl ?_
        refine L.nil ?_
        refine T.blkN ?_
        refine T.thenN ?_
        refine T.region ?_
        refine L.addN rfl rfl rfl (by omega) ?_
        refine L.move rfl rfl ?_
        refine L.nil ?_
        refine T.thenN ?_
        exact T.back ⟨k + 1, _, ⟨by omega, by rw [any_s hgk, ← his, h1]; rfl⟩, rfl, rfl, rfl, rfl⟩ qI (.cons (t := 21) rfl <| .cons (t := 8) rfl <| SubK.nil _) (.cons (t := 1) rfl <| .cons (t := 2) rfl <| .cons (t := 4) rfl <| .cons (t := 5) rfl <| .cons (t := 7) rfl <| .cons (t := 13) rfl <| .cons (t := 14) rfl <| .cons (t := 15) rfl <| .cons (t := 19) rfl <| .cons (t := 20) rfl <| SubK.nil _) qD qD qF
      · skip
        refine T.region ?_
        refine L.move rfl rfl ?_
        refine L.move rfl rfl ?_
        refine L.known (t := 26) rfl (show _ = Value.bool false from congrArg Value.bool (h1)) ?_
        refine L.guardT (dj := 26) rfl rfl rfl ?_
        first | refine L.field0 rfl fo45_1 rfl ?_ | refine L.field rfl fo45_1 rfl ?_
        refine L.guardT (dj := 26) rfl rfl rfl ?_
        refine L.load rfl sc9 rfl qC ?_
        refine L.guardT (dj := 26) rfl rfl rfl ?_
        first | refine L.field0 rfl fo47_0 rfl ?_ | refine L.field rfl fo47_0 rfl ?_
        refine L.guardT (dj := 26) rfl rfl rfl ?_
        first | refine L.field0 rfl fo45_1 rfl ?_ | refine L.field rfl fo45_1 rfl ?_
        refine L.guardT (dj := 26) rfl rfl rfl ?_
        refine L.load rfl sc9 rfl qC ?_
        refine L.guardT (dj := 26) rfl rfl rfl ?_
        refine L.eqS rfl rfl rfl ?_
        refine L.pickF rfl rfl rfl ?_
        refine L.assign rfl rfl ?_
        refine L.nil ?_
        refine T.blkN ?_
        refine T.thenN ?_
        refine T.region ?_
        refine L.addN rfl rfl rfl (by omega) ?_
        refine L.move rfl rfl ?_
        refine L.nil ?_
        refine T.thenN ?_
        exact T.back ⟨k + 1, _, ⟨by omega, by rw [any_s hgk, ← his, h1]; rfl⟩, rfl, rfl, rfl, rfl⟩ qI (.cons (t := 21) rfl <| .cons (t := 8) rfl <| SubK.nil _) (.cons (t := 1) rfl <| .cons (t := 2) rfl <| .cons (t := 4) rfl <| .cons (t := 5) rfl <| .cons (t := 7) rfl <| .cons (t := 13) rfl <| .cons (t := 14) rfl <| .cons (t := 15) rfl <| .cons (t := 19) rfl <| .cons (t := 20) rfl <| SubK.nil _) qD qD qF
    · try simp only [decide_eq_true_eq, decide_eq_false_iff_not, Bool.not_eq_true', Bool.not_eq_false', Bool.and_eq_true, Bool.or_eq_true] at h22
      obtain rfl : wn = k := by omega
      rw [List.take_of_length_le (by omega)] at his
      refine T.exit ?_
      refine T.thenX ?_
      refine T.thenX ?_
      refine T.blkX ?_
      refine T.thenN ?_
      refine T.seq ?_
      refine T.region ?_
      refine L.move rfl rfl ?_
      refine L.nil ?_
      refine T.thenN ?_
      refine T.cond rfl (fun h35 => ?_) (fun h35 => ?_)
      · try simp only [decide_eq_true_eq, decide_eq_false_iff_not, Bool.not_eq_true', Bool.not_eq_false', Bool.and_eq_true, Bool.or_eq_true] at h35
        have hkp : keepB ws x = true := by unfold keepB; rw [← his]; exact h35
        refine T.region ?_
        refine L.move rfl rfl ?_
        refine L.loadA rfl ag47 rfl qN ?_
        refine L.buildSlice rfl bs30 (by decide) (BP.agg rfl rfl (by first | with_reducible assumption | (simp; done) | (simp only [List.length_map]; with_reducible assumption) | (simp [*]; done) | rfl) (Nat.le_of_ble_eq_true rfl) qR <| BP.doneE (out := []) rfl) (fun b38 => ?_)
        refine L.append1 rfl Tryz.underlying30 el47 rfl rfl qP qM rfl qO1 qI qI (fun a39 c39 => ?_)
        refine L.assign rfl rfl ?_
        refine L.nil ?_
        refine T.blkN ?_
        refine T.thenN ?_
        refine T.region ?_
        refine L.addN rfl rfl rfl (by omega) ?_
        refine L.move rfl rfl ?_
        refine L.nil ?_
        refine T.thenN ?_
        refine T.ownEq a39 (((ol.take (j + 1)).filter (keepB ws)).map oR) qP (by rw [fil_s1 hgj hkp, snocM]) ?_
        exact T.back ⟨j + 1, _, l1 + 1, _, ⟨by omega, by rw [fil_s1 hgj hkp, List.length_append, hl1]; rfl⟩, rfl, rfl, rfl, rfl⟩ qI (.cons (t := 15) rfl <| .cons (t := 5) rfl <| SubK.nil _) (.cons (t := 1) rfl <| .cons (t := 2) rfl <| .cons (t := 4) rfl <| .cons (t := 13) rfl <| .cons (t := 14) rfl <| SubK.nil _) qD qD qF
      · try simp only [decide_eq_true_eq, decide_eq_false_iff_not, Bool.not_eq_true', Bool.not_eq_false', Bool.and_eq_true, Bool.or_eq_true] at h35
        have hkp : keepB ws x = false := by unfold keepB; rw [← his]; simpa using h35
        refine T.skip ?_
        refine T.blkN ?_
        refine T.thenN ?_
        refine T.region ?_
        refine L.addN rfl rfl rfl (by omega) ?_
        refine L.move rfl rfl ?_
        refine L.nil ?_
        refine T.thenN ?_
        refine T.ownEq a1 (((ol.take (j + 1)).filter (keepB ws)).map oR) qP (by rw [fil_s0 hgj hkp]) ?_
        exact T.back ⟨j + 1, _, l1, _, ⟨by omega, by rw [fil_s0 hgj hkp]; exact hl1⟩, rfl, rfl, rfl, rfl⟩ qI (.cons (t := 15) rfl <| .cons (t := 5) rfl <| SubK.nil _) (.cons (t := 1) rfl <| .cons (t := 2) rfl <| .cons (t := 4) rfl <| .cons (t := 13) rfl <| .cons (t := 14) rfl <| SubK.nil _) qD qD qF
  · try simp only [decide_eq_true_eq, decide_eq_false_iff_not, Bool.not_eq_true', Bool.not_eq_false', Bool.and_eq_true, Bool.or_eq_true] at h16
    obtain rfl : on = j := by omega
    rw [List.take_of_length_le (by omega)] at hl1
    refine T.exit ?_
    refine T.thenX ?_
    refine T.thenX ?_
    refine T.blkX ?_
    refine T.thenN ?_
    refine T.seq ?_
    refine T.region ?_
    refine L.move rfl rfl ?_
    first | refine L.field0 rfl fo34_2 rfl ?_ | refine L.field rfl fo34_2 rfl ?_
    refine L.store sc30 rfl rfl rfl qU qE ?_
    refine L.nil ?_
    refine T.ownEq _ ((ol.filter (keepB ws)).map oR) qP (by rw [List.take_of_length_le (by omega)]) ?_
    refine T.ownRsl (rows := (ol.filter (keepB ws)).map oR) qP ?_
    refine T.thenN ?_
    refine T.seq ?_
    refine T.region ?_
    refine L.loadA rfl ag34 rfl qN ?_
    refine L.storeA ag34 rfl rfl qL qO qU qW ?_
    refine L.nil ?_
    refine T.thenN ?_
    refine T.ret ?_
    exact T.retA rfl ag34 rfl qN ⟨_, _, _, rfl, hl1, rfl, rfl⟩ qD qF
end Cv
