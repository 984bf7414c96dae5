/-
  The walks: TreeWide.
-/
import Derived.Test.YtdajpfbgikgkeaaR05
import Derived.Test.YtdajpfbgikgkeaaT05
import Derived.Test.YtdajpfbgikgkeaaProg
import Derived.KernelRfl
set_option maxRecDepth 10000
set_option linter.unusedSimpArgs false
set_option linter.unusedVariables false
namespace Cv
open Go Go.Proofs

set_option maxHeartbeats 1600000 in
theorem treeWide_spec {n : Int} (hn : -9223372036854775808 ≤ n ∧ n ≤ 9223372036854775807) : Spec Try.prog 4 [.int .i64 n] [] [] (fun v D' M' => v = .bool true ∧ D' = [] ∧ M' = []) := by
  refine Spec.intro (n := 110) Try.func4 rfl rfl (by decide) (Nat.le_of_ble_eq_true rfl) rfl (fun _ => qA) (fun _ => qA) ?_
  intro σ D M
  refine T.seq ?_
  refine T.region ?_
  refine L.assign rfl rfl ?_
  refine L.nil ?_
  refine T.thenN ?_
  refine T.seq ?_
  refine T.seq ?_
  refine T.region ?_
  refine L.callF rfl (evs.nil) qD qS (awake_spec) (by rintro u D1 M1 ⟨rfl, rfl, rfl⟩; exact ⟨rfl, _, qA, qF⟩) ?_
  refine L.notB rfl rfl ?_
  refine L.move rfl rfl ?_
  refine L.known (t := 12) rfl (show _ = Value.bool false from rfl) ?_
  refine L.guardT (dj := 12) rfl rfl rfl ?_
  refine L.move rfl rfl ?_
  refine L.guardT (dj := 12) rfl rfl rfl ?_
  refine L.ltI rfl rfl rfl ?_
  refine L.pickF rfl rfl rfl ?_
  refine L.move rfl rfl ?_
  refine L.part (t := 16) rfl (fun h1 => ?_) (fun h1 => ?_)
  · try simp only [decide_eq_true_eq, decide_eq_false_iff_not, Bool.not_eq_true', Bool.not_eq_false', Bool.and_eq_true, Bool.or_eq_true] at h1
    refine L.guardF (dj := 16) (c := true) rfl rfl rfl rfl rfl (by decide) ?_
    refine L.guardF (dj := 16) (c := true) rfl rfl rfl rfl rfl (by decide) ?_
    refine L.pickT rfl rfl rfl ?_
    refine L.nil ?_
    refine T.thenN ?_
    refine T.condT rfl rfl ?_
    refine T.seq ?_
    refine T.region ?_
    refine L.callF rfl (evs.nil) qD qS (awake_spec) (by rintro u D1 M1 ⟨rfl, rfl, rfl⟩; exact ⟨rfl, _, qA, qF⟩) ?_
    refine L.assign rfl rfl ?_
    refine L.nil ?_
    refine T.thenN ?_
    refine T.ret ?_
    refine T.thenR ?_
    exact T.ret1 rfl rfl ⟨rfl, rfl, rfl⟩ qD qF
  · try simp only [decide_eq_true_eq, decide_eq_false_iff_not, Bool.not_eq_true', Bool.not_eq_false', Bool.and_eq_true, Bool.or_eq_true] at h1
    refine L.guardT (dj := 16) rfl rfl rfl ?_
    refine L.move rfl rfl ?_
    refine L.guardT (dj := 16) rfl rfl rfl ?_
    refine L.gtI rfl rfl rfl ?_
    refine L.pickF rfl rfl rfl ?_
    refine L.nil ?_
    refine T.thenN ?_
    refine T.cond rfl (fun h19 => ?_) (fun h19 => ?_)
    · try simp only [decide_eq_true_eq, decide_eq_false_iff_not, Bool.not_eq_true', Bool.not_eq_false', Bool.and_eq_true, Bool.or_eq_true] at h19
      refine T.seq ?_
      refine T.region ?_
      refine L.callF rfl (evs.nil) qD qS (awake_spec) (by rintro u D1 M1 ⟨rfl, rfl, rfl⟩; exact ⟨rfl, _, qA, qF⟩) ?_
      refine L.assign rfl rfl ?_
      refine L.nil ?_
      refine T.thenN ?_
      refine T.ret ?_
      refine T.thenR ?_
      exact T.ret1 rfl rfl ⟨rfl, rfl, rfl⟩ qD qF
    · try simp only [decide_eq_true_eq, decide_eq_false_iff_not, Bool.not_eq_true', Bool.not_eq_false', Bool.and_eq_true, Bool.or_eq_true] at h19
      obtain ⟨m, rfl⟩ : ∃ m : Nat, n = (m : Int) := ⟨n.toNat, by omega⟩
      have hm : m ≤ 100 := by omega
      have hw := wide_chk m (by omega)
      have hw5 : chkE (ofT (wideL m)) = 0 ∨ chkE (ofT (wideL m)) = 5 := by rw [hw]; split <;> simp
      have hlg := long_chk (m * 100)
      have hlf := letF_len []
      have hr0 : (List.replicate 0 (0 : UInt8)).length = 0 := rfl
      have hr97 : (List.replicate m (97 : UInt8)).length = m := List.length_replicate
      have hr00 : (List.replicate (m * 100) (0 : UInt8)).length = m * 100 := List.length_replicate
      refine T.skip ?_
      refine T.thenN ?_
      refine T.seq ?_
      refine T.region ?_
      refine L.buildSlice rfl bs22 (by decide) (BP.doneE (out := []) rfl) (fun b21 => ?_)
      refine L.toOwn (len := 0) (sz := 4) qP (rows := (wideL 0).map eT) (by rfl) rfl (by simp [wideL]) ?_
      refine L.assign rfl rfl ?_
      refine L.nil ?_
      refine T.thenN ?_
      refine T.seq ?_
      refine T.seq ?_
      refine T.region ?_
      refine L.assign rfl rfl ?_
      refine L.nil ?_
      refine T.thenN ?_
      refine T.block ?_
      refine T.loop (fun K' D' M' μ => ∃ (i : Nat) (a1 : Option Addr) (c1 : Nat), (i ≤ m) ∧ K' = [(3, .slice a1 i c1), (4, .int .i64 i)] ∧ D' = [] ∧ M' = [own 4 36 a1 i c1 ((wideL i).map eT)] ∧ μ = m - i) (.cons (t := 0) rfl <| SubK.nil _) (⟨0, _, _, (by omega), rfl, rfl, rfl, rfl⟩) (.cons (t := 3) rfl <| .cons (t := 4) rfl <| SubK.nil _) qD qS ?_
      rintro K1 D1 M1 m1 ⟨i, a1, c1, hi, rfl, rfl, rfl, rfl⟩
      refine T.norm3 qA qA qA ?_
      refine T.seq ?_
      refine T.seq ?_
      refine T.region ?_
      refine L.move rfl rfl ?_
      refine L.move rfl rfl ?_
      refine L.ltI rfl rfl rfl ?_
      refine L.nil ?_
      refine T.thenN ?_
      refine T.cond rfl (fun h24 => ?_) (fun h24 => ?_)
      · try simp only [decide_eq_true_eq, decide_eq_false_iff_not, Bool.not_eq_true', Bool.not_eq_false', Bool.and_eq_true, Bool.or_eq_true] at h24
        refine T.skip ?_
        refine T.thenN ?_
        refine T.seq ?_
        refine T.block ?_
        refine T.region ?_
        refine L.move rfl rfl ?_
        refine L.move rfl rfl ?_
        refine L.quoN rfl rfl rfl qI ?_
        refine L.addN rfl rfl rfl (by omega) ?_
        refine L.convIY rfl Try.underlying3 Try.underlying5 rfl ?_
        rw [show Y (UInt8.ofNat (((97 : Int) + (i : Int) / 26) % 256).toNat) = Y (UInt8.ofNat (97 + i / 26)) from congrArg Y (congrArg UInt8.ofNat (by omega))]
        refine L.move rfl rfl ?_
        refine L.remN rfl rfl rfl qI ?_
        refine L.addN rfl rfl rfl (by omega) ?_
        refine L.convIY rfl Try.underlying3 Try.underlying5 rfl ?_
        rw [show Y (UInt8.ofNat (((97 : Int) + (i : Int) % 26) % 256).toNat) = Y (UInt8.ofNat (97 + i % 26)) from congrArg Y (congrArg UInt8.ofNat (by omega))]
        refine L.buildSlice rfl bs34 (by decide) (BP.one rfl rfl rfl <| BP.one rfl rfl rfl <| BP.doneE (out := []) rfl) (fun b36 => ?_)
        refine L.toOwn (len := 2) (sz := 1) (e := 5) (rows := (nmW i).map yr) qP (by rfl) rfl (by simp [nmW]) ?_
        refine L.ownRsl qP ?_
        refine L.bytesStr rfl Try.underlying34 Try.underlying5 Try.underlying9 rfl qM ?_
        refine L.build rfl bu24 (BP.one rfl rfl rfl <| BP.doneE (out := [S [], Value.slice none 0 0]) rfl) ?_
        refine L.build rfl bu36 (BP.one rfl rfl rfl <| BP.agg rfl rfl (by first | with_reducible assumption | (simp; done) | (simp only [List.length_map]; with_reducible assumption) | (simp [*]; done) | rfl) (Nat.le_of_ble_eq_true rfl) qR <| BP.doneE (out := []) rfl) ?_
        refine L.buildSlice rfl bs22 (by decide) (BP.agg rfl rfl (by first | with_reducible assumption | (simp; done) | (simp only [List.length_map]; with_reducible assumption) | (simp [*]; done) | rfl) (Nat.le_of_ble_eq_true rfl) qR <| BP.doneE (out := []) rfl) (fun b40 => ?_)
        refine L.append1 rfl Try.underlying22 el36 rfl rfl qP qM rfl qO1 qI qI (fun a41 c41 => ?_)
        refine L.assign rfl rfl ?_
        refine L.nil ?_
        refine T.blkN ?_
        refine T.thenN ?_
        refine T.region ?_
        refine L.move rfl rfl ?_
        refine L.addN rfl rfl rfl (by omega) ?_
        refine L.assign rfl rfl ?_
        refine L.nil ?_
        refine T.thenN ?_
        refine T.ownEq _ ((wideL (i + 1)).map eT) qP (by rw [wideL_succ, List.map_append]; rfl) ?_
        exact T.back ⟨i + 1, _, _, (by omega), rfl, rfl, rfl, rfl⟩ qI (.cons (t := 3) rfl <| .cons (t := 4) rfl <| SubK.nil _) (.cons (t := 0) rfl <| SubK.nil _) qD qD qF
      · try simp only [decide_eq_true_eq, decide_eq_false_iff_not, Bool.not_eq_true', Bool.not_eq_false', Bool.and_eq_true, Bool.or_eq_true] at h24
        refine T.exit ?_
        refine T.thenX ?_
        refine T.thenX ?_
        refine T.blkX ?_
        refine T.thenN ?_
        refine T.seq ?_
        obtain rfl : m = i := by omega
        refine T.fact0 (φ := etsA (wideL m)) (wideL_ets m) ?_
        refine T.region ?_
        refine L.move rfl rfl ?_
        refine L.call rfl (evs.cons rfl <| evs.nil) qD qS (of_spec2 (xs := wideL m) (len := m) (by omega)) ?_
        rintro _ _ _ ⟨oa, oc, ys, rfl, hk, hs, hyl, rfl, rfl⟩
        refine L.norm qA qA ?_
        obtain rfl := hk.same (wideL_srt hm)
        refine L.callF rfl (evs.cons rfl <| evs.nil) qD qS (Chk_spec (x := ofT (wideL m)) _ _ _ (by have := wide_cnt m (by omega); omega) (wide_sm hm) (show ([] : List UInt8).length ≤ 20000 by decide)) (by rintro u D1 M1 ⟨rfl, rfl, rfl⟩; exact ⟨rfl, _, qA, qF⟩) ?_
        refine L.assign rfl rfl ?_
        refine L.nil ?_
        refine T.thenN ?_
        refine T.seq ?_
        refine T.region ?_
        refine L.build rfl bu24 (BP.one rfl rfl rfl <| BP.doneE (out := [S [], Value.slice none 0 0]) rfl) ?_
        refine L.alloc rfl ze24 (fun b6 => ?_)
        refine L.storeA ag24 rfl rfl qL qO qU qW ?_
        refine L.nil ?_
        refine T.thenN ?_
        refine T.seq ?_
        refine T.seq ?_
        refine T.fact0 (φ := rtr (deepT 0) (eRow (deepT 0) none 0 0)) (fun z => rt_leaf) ?_
        refine T.clEq b6 (iRow (deepT 0) none 0 0) qP (by rfl) ?_
        refine T.region ?_
        refine L.assign rfl rfl ?_
        refine L.nil ?_
        refine T.thenN ?_
        refine T.block ?_
        refine T.loop (fun K' D' M' μ => ∃ (j : Nat) (a6 : Option Addr) (l6 c6 : Nat), (j + 1 ≤ m ∨ j = 0) ∧ K' = [(7, .int .i64 ((j + 1 : Nat) : Int))] ∧ D' = [rtr (deepT j) (eRow (deepT j) a6 l6 c6)] ∧ M' = [cl b6 24 (iRow (deepT j) a6 l6 c6)] ∧ μ = m - j) (.cons (t := 0) rfl <| .cons (t := 5) rfl <| .cons (t := 6) rfl <| SubK.nil _) (⟨0, none, 0, 0, (.inr rfl), rfl, rfl, rfl, rfl⟩) (.cons (t := 7) rfl <| SubK.nil _) qD qS ?_
        rintro K1 D1 M1 m1 ⟨j, a6, l6, c6, hj, rfl, rfl, rfl, rfl⟩
        refine T.norm3 qA qA qA ?_
        refine T.seq ?_
        refine T.seq ?_
        refine T.region ?_
        refine L.move rfl rfl ?_
        refine L.move rfl rfl ?_
        refine L.ltI rfl rfl rfl ?_
        refine L.nil ?_
        refine T.thenN ?_
        refine T.cond rfl (fun h48 => ?_) (fun h48 => ?_)
        · try simp only [decide_eq_true_eq, decide_eq_false_iff_not, Bool.not_eq_true', Bool.not_eq_false', Bool.and_eq_true, Bool.or_eq_true] at h48
          refine T.skip ?_
          refine T.thenN ?_
          refine T.seq ?_
          refine T.block ?_
          refine T.region ?_
          refine L.loadA rfl ag24 rfl qN ?_
          refine L.build rfl bu36 (BP.one rfl rfl rfl <| BP.agg rfl rfl (by first | with_reducible assumption | (simp; done) | (simp only [List.length_map]; with_reducible assumption) | (simp [*]; done) | rfl) (Nat.le_of_ble_eq_true rfl) qR <| BP.doneE (out := []) rfl) ?_
          refine L.buildSlice rfl bs22 (by decide) (BP.agg rfl rfl (by first | with_reducible assumption | (simp; done) | (simp only [List.length_map]; with_reducible assumption) | (simp [*]; done) | rfl) (Nat.le_of_ble_eq_true rfl) qR <| BP.doneE (out := []) rfl) (fun b53 => ?_)
          refine L.toOwn (len := 1) (sz := 4) (e := 36) (rows := ([((deepT j).named [100], a6, l6, c6)]).map eT) qP (by rfl) rfl (by simp) ?_
          refine L.ownRsl qP ?_
          refine L.trName (x := deepT j) (y := (deepT j).named [100]) qM rfl ?_
          refine L.derive (φ := rtr ((deepT j).named [100]) (eRow ((deepT j).named [100]) a6 l6 c6)) (ψ := etsA [((deepT j).named [100], a6, l6, c6)]) qM (fun z H q hq => by simp only [List.mem_singleton] at hq; subst hq; exact H) ?_
          refine L.call rfl (evs.cons rfl <| evs.nil) qD qS (of_spec (xs := [((deepT j).named [100], a6, l6, c6)]) (by decide)) ?_
          rintro _ _ _ ⟨oa, oc, ys, rfl, hk, hs, hyl, rfl, rfl⟩
          refine L.norm qA qA ?_
          obtain rfl := of_one hk
          refine L.storeA ag24 rfl rfl qL qO qU qW ?_
          refine L.nil ?_
          refine T.blkN ?_
          refine T.thenN ?_
          refine T.region ?_
          refine L.move rfl rfl ?_
          refine L.addN rfl rfl rfl (by omega) ?_
          rw [show ((j + 1 : Nat) : Int) + 1 = ((j + 1 + 1 : Nat) : Int) from rfl]
          refine L.assign rfl rfl ?_
          refine L.nil ?_
          refine T.thenN ?_
          refine T.clEq b6 (iRow (deepT (j + 1)) oa 1 oc) qP (by rfl) ?_
          refine T.derive (φ := rtr (ofT [((deepT j).named [100], a6, l6, c6)]) (eRow (ofT [((deepT j).named [100], a6, l6, c6)]) oa 1 oc)) (ψ := rtr (deepT (j + 1)) (eRow (deepT (j + 1)) oa 1 oc)) qM (fun z H => H) ?_
          exact T.back ⟨j + 1, oa, 1, oc, (by omega), rfl, rfl, rfl, rfl⟩ qI (.cons (t := 7) rfl <| SubK.nil _) (.cons (t := 0) rfl <| .cons (t := 5) rfl <| .cons (t := 6) rfl <| SubK.nil _) qD qD qF
        · try simp only [decide_eq_true_eq, decide_eq_false_iff_not, Bool.not_eq_true', Bool.not_eq_false', Bool.and_eq_true, Bool.or_eq_true] at h48
          refine T.exit ?_
          refine T.thenX ?_
          refine T.thenX ?_
          refine T.blkX ?_
          refine T.thenN ?_
          refine T.seq ?_
          obtain rfl : j = m - 1 := by omega
          have hdp := deep_chk m (by omega)
          obtain ⟨jj, hjj⟩ : ∃ jj, jj = m - 1 := ⟨_, rfl⟩
          rw [← hjj] at hdp ⊢
          refine T.region ?_
          refine L.move rfl rfl ?_
          refine L.mulN rfl rfl rfl (by omega) ?_
          refine L.makeBytes (k := m * 100) rfl Try.underlying34 (by kernel_rfl) rfl rfl (by omega) (by omega) (by omega) (fun bmk => ?_)
          refine L.bytesStr rfl Try.underlying34 Try.underlying5 Try.underlying9 rfl qM ?_
          refine L.build rfl bu24 (BP.one rfl rfl rfl <| BP.one rfl rfl rfl <| BP.doneE (out := [Value.slice none 0 0]) rfl) ?_
          refine L.fact0 (φ := rtr (longT (m * 100)) (eRow (longT (m * 100)) none 0 0)) (fun z => rt_leaf) ?_
          refine L.callF rfl (evs.cons rfl <| evs.nil) qD qS (Chk_spec (x := longT (m * 100)) none 0 0 (by rw [long_cnt]; decide) tall_leaf (show (List.replicate (m * 100) (0 : UInt8)).length ≤ 20000 by omega)) (by rintro u D1 M1 ⟨rfl, rfl, rfl⟩; exact ⟨rfl, _, qA, qF⟩) ?_
          refine L.assign rfl rfl ?_
          refine L.nil ?_
          refine T.thenN ?_
          refine T.seq ?_
          refine T.cutC (fun K' D' M' => ∃ (e9 : Int), (e9 = chkE (ofT (nmeL m))) ∧ K' = [(9, .int .i64 e9)] ∧ D' = [] ∧ M' = []) (M0 := []) (.cons (t := 0) rfl <| .cons (t := 5) rfl <| .cons (t := 6) rfl <| .cons (t := 8) rfl <| SubK.nil _) qS ?_ ?_
          · skip
            refine T.regionA (clsL [2, 2, 2, 1, 1, 2, 1, 1, 1, 2, 2, 2, 2]) (by kernel_rfl) ?_
            refine A.takeP (i := 4) rfl rfl rfl rfl (by kernel_rfl) (by kernel_rfl) (by kernel_rfl) rfl qD ?_
            refine L.move rfl rfl ?_
            refine A.took ?_
            refine A.takeP (i := 7) rfl rfl rfl rfl (by kernel_rfl) (by kernel_rfl) (by kernel_rfl) rfl qD ?_
            refine L.build rfl bu24 (BP.one rfl rfl rfl <| BP.doneE (out := [S [], Value.slice none 0 0]) rfl) ?_
            refine A.took ?_
            refine A.branch (is := [0, 2]) (by kernel_rfl) (by decide) (Each.cons rfl ?_ <| Each.cons rfl ?_ <| Each.nil) 
            · skip
              refine L.makeBytes (k := 0) rfl Try.underlying34 (by kernel_rfl) rfl rfl (by omega) (by omega) (by omega) (fun bmk => ?_)
              refine A.backT rfl qD ?_
              refine A.branch (is := [1, 2]) (by kernel_rfl) (by decide) (Each.cons rfl ?_ <| Each.cons rfl ?_ <| Each.nil) 
              · skip
                refine L.bytesStr rfl Try.underlying34 Try.underlying5 Try.underlying9 rfl qM ?_
                refine A.backT rfl qD ?_
                refine A.branch (is := [2]) (by kernel_rfl) (by decide) (Each.cons rfl ?_ <| Each.nil) 
                refine L.callF rfl (evs.cons rfl <| evs.nil) qD qS (letters_spec (s := []) (by decide)) (by rintro u D1 M1 ⟨rfl, rfl, rfl⟩; exact ⟨rfl, _, qA, qF⟩) ?_
                refine A.backT rfl qD ?_
                refine A.takeP (i := 3) rfl rfl rfl rfl (by kernel_rfl) (by kernel_rfl) (by kernel_rfl) rfl qD ?_
                refine L.addS rfl rfl rfl qI ?_
                refine A.took ?_
                refine A.branch (is := [5]) (by kernel_rfl) (by decide) (Each.cons rfl ?_ <| Each.nil) 
                refine L.callF rfl (evs.cons rfl <| evs.cons rfl <| evs.nil) qD qS (repeat_spec (n := m) (by omega)) (by rintro u D1 M1 ⟨rfl, rfl, rfl⟩; exact ⟨rfl, _, qA, qF⟩) ?_
                refine A.backT rfl qD ?_
                refine A.takeP (i := 6) rfl rfl rfl rfl (by kernel_rfl) (by kernel_rfl) (by kernel_rfl) rfl qD ?_
                refine L.addS rfl rfl rfl qI ?_
                refine A.took ?_
                refine A.takeP (i := 8) rfl rfl rfl rfl (by kernel_rfl) (by kernel_rfl) (by kernel_rfl) rfl qD ?_
                refine L.build rfl bu36 (BP.one rfl rfl rfl <| BP.agg rfl rfl (by first | with_reducible assumption | (simp; done) | (simp only [List.length_map]; with_reducible assumption) | (simp [*]; done) | rfl) (Nat.le_of_ble_eq_true rfl) qR <| BP.doneE (out := []) rfl) ?_
                refine A.took ?_
                refine A.branch (is := [9]) (by kernel_rfl) (by decide) (Each.cons rfl ?_ <| Each.nil) 
                refine L.buildSlice rfl bs22 (by decide) (BP.agg rfl rfl (by first | with_reducible assumption | (simp; done) | (simp only [List.length_map]; with_reducible assumption) | (simp [*]; done) | rfl) (Nat.le_of_ble_eq_true rfl) qR <| BP.doneE (out := []) rfl) (fun b70 => ?_)
                refine L.toOwn (len := 1) (sz := 4) (e := 36) (rows := (nmeL m).map eT) qP (by rfl) rfl (by simp [nmeL]) ?_
                refine L.ownRsl qP ?_
                refine L.fact0 (φ := etsA (nmeL m)) (fun z q hq => by simp only [nmeL, List.mem_singleton] at hq; subst hq; exact rt_leaf) ?_
                refine A.backT rfl qD ?_
                refine A.branch (is := [10]) (by kernel_rfl) (by decide) (Each.cons rfl ?_ <| Each.nil) 
                refine L.call rfl (evs.cons rfl <| evs.nil) qD qS (of_spec (xs := nmeL m) (by decide)) ?_
                rintro _ _ _ ⟨na, nc, ys, rfl, hk, hs, hyl, rfl, rfl⟩
                refine L.norm qA qA ?_
                have hone : ys = nmeL m := of_one hk
                subst hone
                refine A.backT rfl qD ?_
                refine A.branch (is := [11]) (by kernel_rfl) (by decide) (Each.cons rfl ?_ <| Each.nil) 
                refine L.callF rfl (evs.cons rfl <| evs.nil) qD qS (Chk_spec (x := ofT (nmeL m)) _ _ _ (by rw [nme_cnt]; decide) (nme_sm hm) (show ([] : List UInt8).length ≤ 20000 by decide)) (by rintro u D1 M1 ⟨rfl, rfl, rfl⟩; exact ⟨rfl, _, qA, qF⟩) ?_
                refine A.backT rfl qD ?_
                refine A.branch (is := [12]) (by kernel_rfl) (by decide) (Each.cons rfl ?_ <| Each.nil) 
                refine L.assign rfl rfl ?_
                refine A.backT rfl qD ?_
                refine A.done (by kernel_rfl) ?_
                refine T.thenN ?_
                exact T.toJoin ⟨_, rfl, rfl, rfl, rfl⟩ (.cons (t := 9) rfl <| SubK.nil _) (.cons (t := 0) rfl <| .cons (t := 5) rfl <| .cons (t := 6) rfl <| .cons (t := 8) rfl <| SubK.nil _) qD qD qF
              · skip
                refine L.callF rfl (evs.cons rfl <| evs.nil) qD qS (letters_spec (s := []) (by decide)) (by rintro u D1 M1 ⟨rfl, rfl, rfl⟩; exact ⟨rfl, _, qA, qF⟩) ?_
                refine A.backT rfl qD ?_
                refine A.branch (is := [1, 5]) (by kernel_rfl) (by decide) (Each.cons rfl ?_ <| Each.cons rfl ?_ <| Each.nil) 
                · skip
                  refine L.bytesStr rfl Try.underlying34 Try.underlying5 Try.underlying9 rfl qM ?_
                  refine A.backT rfl qD ?_
                  refine A.takeP (i := 3) rfl rfl rfl rfl (by kernel_rfl) (by kernel_rfl) (by kernel_rfl) rfl qD ?_
                  refine L.addS rfl rfl rfl qI ?_
                  refine A.took ?_
                  refine A.branch (is := [5]) (by kernel_rfl) (by decide) (Each.cons rfl ?_ <| Each.nil) 
                  refine L.callF rfl (evs.cons rfl <| evs.cons rfl <| evs.nil) qD qS (repeat_spec (n := m) (by omega)) (by rintro u D1 M1 ⟨rfl, rfl, rfl⟩; exact ⟨rfl, _, qA, qF⟩) ?_
                  refine A.backT rfl qD ?_
                  refine A.takeP (i := 6) rfl rfl rfl rfl (by kernel_rfl) (by kernel_rfl) (by kernel_rfl) rfl qD ?_
                  refine L.addS rfl rfl rfl qI ?_
                  refine A.took ?_
                  refine A.takeP (i := 8) rfl rfl rfl rfl (by kernel_rfl) (by kernel_rfl) (by kernel_rfl) rfl qD ?_
                  refine L.build rfl bu36 (BP.one rfl rfl rfl <| BP.agg rfl rfl (by first | with_reducible assumption | (simp; done) | (simp only [List.length_map]; with_reducible assumption) | (simp [*]; done) | rfl) (Nat.le_of_ble_eq_true rfl) qR <| BP.doneE (out := []) rfl) ?_
                  refine A.took ?_
                  refine A.branch (is := [9]) (by kernel_rfl) (by decide) (Each.cons rfl ?_ <| Each.nil) 
                  refine L.buildSlice rfl bs22 (by decide) (BP.agg rfl rfl (by first | with_reducible assumption | (simp; done) | (simp only [List.length_map]; with_reducible assumption) | (simp [*]; done) | rfl) (Nat.le_of_ble_eq_true rfl) qR <| BP.doneE (out := []) rfl) (fun b70 => ?_)
                  refine L.toOwn (len := 1) (sz := 4) (e := 36) (rows := (nmeL m).map eT) qP (by rfl) rfl (by simp [nmeL]) ?_
                  refine L.ownRsl qP ?_
                  refine L.fact0 (φ := etsA (nmeL m)) (fun z q hq => by simp only [nmeL, List.mem_singleton] at hq; subst hq; exact rt_leaf) ?_
                  refine A.backT rfl qD ?_
                  refine A.branch (is := [10]) (by kernel_rfl) (by decide) (Each.cons rfl ?_ <| Each.nil) 
                  refine L.call rfl (evs.cons rfl <| evs.nil) qD qS (of_spec (xs := nmeL m) (by decide)) ?_
                  rintro _ _ _ ⟨na, nc, ys, rfl, hk, hs, hyl, rfl, rfl⟩
                  refine L.norm qA qA ?_
                  have hone : ys = nmeL m := of_one hk
                  subst hone
                  refine A.backT rfl qD ?_
                  refine A.branch (is := [11]) (by kernel_rfl) (by decide) (Each.cons rfl ?_ <| Each.nil) 
                  refine L.callF rfl (evs.cons rfl <| evs.nil) qD qS (Chk_spec (x := ofT (nmeL m)) _ _ _ (by rw [nme_cnt]; decide) (nme_sm hm) (show ([] : List UInt8).length ≤ 20000 by decide)) (by rintro u D1 M1 ⟨rfl, rfl, rfl⟩; exact ⟨rfl, _, qA, qF⟩) ?_
                  refine A.backT rfl qD ?_
                  refine A.branch (is := [12]) (by kernel_rfl) (by decide) (Each.cons rfl ?_ <| Each.nil) 
                  refine L.assign rfl rfl ?_
                  refine A.backT rfl qD ?_
                  refine A.done (by kernel_rfl) ?_
                  refine T.thenN ?_
                  exact T.toJoin ⟨_, rfl, rfl, rfl, rfl⟩ (.cons (t := 9) rfl <| SubK.nil _) (.cons (t := 0) rfl <| .cons (t := 5) rfl <| .cons (t := 6) rfl <| .cons (t := 8) rfl <| SubK.nil _) qD qD qF
                · skip
                  refine L.callF rfl (evs.cons rfl <| evs.cons rfl <| evs.nil) qD qS (repeat_spec (n := m) (by omega)) (by rintro u D1 M1 ⟨rfl, rfl, rfl⟩; exact ⟨rfl, _, qA, qF⟩) ?_
                  refine A.backT rfl qD ?_
                  refine A.branch (is := [1]) (by kernel_rfl) (by decide) (Each.cons rfl ?_ <| Each.nil) 
                  refine L.bytesStr rfl Try.underlying34 Try.underlying5 Try.underlying9 rfl qM ?_
                  refine A.backT rfl qD ?_
                  refine A.takeP (i := 3) rfl rfl rfl rfl (by kernel_rfl) (by kernel_rfl) (by kernel_rfl) rfl qD ?_
                  refine L.addS rfl rfl rfl qI ?_
                  refine A.took ?_
                  refine A.takeP (i := 6) rfl rfl rfl rfl (by kernel_rfl) (by kernel_rfl) (by kernel_rfl) rfl qD ?_
                  refine L.addS rfl rfl rfl qI ?_
                  refine A.took ?_
                  refine A.takeP (i := 8) rfl rfl rfl rfl (by kernel_rfl) (by kernel_rfl) (by kernel_rfl) rfl qD ?_
                  refine L.build rfl bu36 (BP.one rfl rfl rfl <| BP.agg rfl rfl (by first | with_reducible assumption | (simp; done) | (simp only [List.length_map]; with_reducible assumption) | (simp [*]; done) | rfl) (Nat.le_of_ble_eq_true rfl) qR <| BP.doneE (out := []) rfl) ?_
                  refine A.took ?_
                  refine A.branch (is := [9]) (by kernel_rfl) (by decide) (Each.cons rfl ?_ <| Each.nil) 
                  refine L.buildSlice rfl bs22 (by decide) (BP.agg rfl rfl (by first | with_reducible assumption | (simp; done) | (simp only [List.length_map]; with_reducible assumption) | (simp [*]; done) | rfl) (Nat.le_of_ble_eq_true rfl) qR <| BP.doneE (out := []) rfl) (fun b70 => ?_)
                  refine L.toOwn (len := 1) (sz := 4) (e := 36) (rows := (nmeL m).map eT) qP (by rfl) rfl (by simp [nmeL]) ?_
                  refine L.ownRsl qP ?_
                  refine L.fact0 (φ := etsA (nmeL m)) (fun z q hq => by simp only [nmeL, List.mem_singleton] at hq; subst hq; exact rt_leaf) ?_
                  refine A.backT rfl qD ?_
                  refine A.branch (is := [10]) (by kernel_rfl) (by decide) (Each.cons rfl ?_ <| Each.nil) 
                  refine L.call rfl (evs.cons rfl <| evs.nil) qD qS (of_spec (xs := nmeL m) (by decide)) ?_
                  rintro _ _ _ ⟨na, nc, ys, rfl, hk, hs, hyl, rfl, rfl⟩
                  refine L.norm qA qA ?_
                  have hone : ys = nmeL m := of_one hk
                  subst hone
                  refine A.backT rfl qD ?_
                  refine A.branch (is := [11]) (by kernel_rfl) (by decide) (Each.cons rfl ?_ <| Each.nil) 
                  refine L.callF rfl (evs.cons rfl <| evs.nil) qD qS (Chk_spec (x := ofT (nmeL m)) _ _ _ (by rw [nme_cnt]; decide) (nme_sm hm) (show ([] : List UInt8).length ≤ 20000 by decide)) (by rintro u D1 M1 ⟨rfl, rfl, rfl⟩; exact ⟨rfl, _, qA, qF⟩) ?_
                  refine A.backT rfl qD ?_
                  refine A.branch (is := [12]) (by kernel_rfl) (by decide) (Each.cons rfl ?_ <| Each.nil) 
                  refine L.assign rfl rfl ?_
                  refine A.backT rfl qD ?_
                  refine A.done (by kernel_rfl) ?_
                  refine T.thenN ?_
                  exact T.toJoin ⟨_, rfl, rfl, rfl, rfl⟩ (.cons (t := 9) rfl <| SubK.nil _) (.cons (t := 0) rfl <| .cons (t := 5) rfl <| .cons (t := 6) rfl <| .cons (t := 8) rfl <| SubK.nil _) qD qD qF
            · skip
              refine L.callF rfl (evs.cons rfl <| evs.nil) qD qS (letters_spec (s := []) (by decide)) (by rintro u D1 M1 ⟨rfl, rfl, rfl⟩; exact ⟨rfl, _, qA, qF⟩) ?_
              refine A.backT rfl qD ?_
              refine A.branch (is := [0, 5]) (by kernel_rfl) (by decide) (Each.cons rfl ?_ <| Each.cons rfl ?_ <| Each.nil) 
              · skip
                refine L.makeBytes (k := 0) rfl Try.underlying34 (by kernel_rfl) rfl rfl (by omega) (by omega) (by omega) (fun bmk => ?_)
                refine A.backT rfl qD ?_
                refine A.branch (is := [1, 5]) (by kernel_rfl) (by decide) (Each.cons rfl ?_ <| Each.cons rfl ?_ <| Each.nil) 
                · skip
                  refine L.bytesStr rfl Try.underlying34 Try.underlying5 Try.underlying9 rfl qM ?_
                  refine A.backT rfl qD ?_
                  refine A.takeP (i := 3) rfl rfl rfl rfl (by kernel_rfl) (by kernel_rfl) (by kernel_rfl) rfl qD ?_
                  refine L.addS rfl rfl rfl qI ?_
                  refine A.took ?_
                  refine A.branch (is := [5]) (by kernel_rfl) (by decide) (Each.cons rfl ?_ <| Each.nil) 
                  refine L.callF rfl (evs.cons rfl <| evs.cons rfl <| evs.nil) qD qS (repeat_spec (n := m) (by omega)) (by rintro u D1 M1 ⟨rfl, rfl, rfl⟩; exact ⟨rfl, _, qA, qF⟩) ?_
                  refine A.backT rfl qD ?_
                  refine A.takeP (i := 6) rfl rfl rfl rfl (by kernel_rfl) (by kernel_rfl) (by kernel_rfl) rfl qD ?_
                  refine L.addS rfl rfl rfl qI ?_
                  refine A.took ?_
                  refine A.takeP (i := 8) rfl rfl rfl rfl (by kernel_rfl) (by kernel_rfl) (by kernel_rfl) rfl qD ?_
                  refine L.build rfl bu36 (BP.one rfl rfl rfl <| BP.agg rfl rfl (by first | with_reducible assumption | (simp; done) | (simp only [List.length_map]; with_reducible assumption) | (simp [*]; done) | rfl) (Nat.le_of_ble_eq_true rfl) qR <| BP.doneE (out := []) rfl) ?_
                  refine A.took ?_
                  refine A.branch (is := [9]) (by kernel_rfl) (by decide) (Each.cons rfl ?_ <| Each.nil) 
                  refine L.buildSlice rfl bs22 (by decide) (BP.agg rfl rfl (by first | with_reducible assumption | (simp; done) | (simp only [List.length_map]; with_reducible assumption) | (simp [*]; done) | rfl) (Nat.le_of_ble_eq_true rfl) qR <| BP.doneE (out := []) rfl) (fun b70 => ?_)
                  refine L.toOwn (len := 1) (sz := 4) (e := 36) (rows := (nmeL m).map eT) qP (by rfl) rfl (by simp [nmeL]) ?_
                  refine L.ownRsl qP ?_
                  refine L.fact0 (φ := etsA (nmeL m)) (fun z q hq => by simp only [nmeL, List.mem_singleton] at hq; subst hq; exact rt_leaf) ?_
                  refine A.backT rfl qD ?_
                  refine A.branch (is := [10]) (by kernel_rfl) (by decide) (Each.cons rfl ?_ <| Each.nil) 
                  refine L.call rfl (evs.cons rfl <| evs.nil) qD qS (of_spec (xs := nmeL m) (by decide)) ?_
                  rintro _ _ _ ⟨na, nc, ys, rfl, hk, hs, hyl, rfl, rfl⟩
                  refine L.norm qA qA ?_
                  have hone : ys = nmeL m := of_one hk
                  subst hone
                  refine A.backT rfl qD ?_
                  refine A.branch (is := [11]) (by kernel_rfl) (by decide) (Each.cons rfl ?_ <| Each.nil) 
                  refine L.callF rfl (evs.cons rfl <| evs.nil) qD qS (Chk_spec (x := ofT (nmeL m)) _ _ _ (by rw [nme_cnt]; decide) (nme_sm hm) (show ([] : List UInt8).length ≤ 20000 by decide)) (by rintro u D1 M1 ⟨rfl, rfl, rfl⟩; exact ⟨rfl, _, qA, qF⟩) ?_
                  refine A.backT rfl qD ?_
                  refine A.branch (is := [12]) (by kernel_rfl) (by decide) (Each.cons rfl ?_ <| Each.nil) 
                  refine L.assign rfl rfl ?_
                  refine A.backT rfl qD ?_
                  refine A.done (by kernel_rfl) ?_
                  refine T.thenN ?_
                  exact T.toJoin ⟨_, rfl, rfl, rfl, rfl⟩ (.cons (t := 9) rfl <| SubK.nil _) (.cons (t := 0) rfl <| .cons (t := 5) rfl <| .cons (t := 6) rfl <| .cons (t := 8) rfl <| SubK.nil _) qD qD qF
                · skip
                  refine L.callF rfl (evs.cons rfl <| evs.cons rfl <| evs.nil) qD qS (repeat_spec (n := m) (by omega)) (by rintro u D1 M1 ⟨rfl, rfl, rfl⟩; exact ⟨rfl, _, qA, qF⟩) ?_
                  refine A.backT rfl qD ?_
                  refine A.branch (is := [1]) (by kernel_rfl) (by decide) (Each.cons rfl ?_ <| Each.nil) 
                  refine L.bytesStr rfl Try.underlying34 Try.underlying5 Try.underlying9 rfl qM ?_
                  refine A.backT rfl qD ?_
                  refine A.takeP (i := 3) rfl rfl rfl rfl (by kernel_rfl) (by kernel_rfl) (by kernel_rfl) rfl qD ?_
                  refine L.addS rfl rfl rfl qI ?_
                  refine A.took ?_
                  refine A.takeP (i := 6) rfl rfl rfl rfl (by kernel_rfl) (by kernel_rfl) (by kernel_rfl) rfl qD ?_
                  refine L.addS rfl rfl rfl qI ?_
                  refine A.took ?_
                  refine A.takeP (i := 8) rfl rfl rfl rfl (by kernel_rfl) (by kernel_rfl) (by kernel_rfl) rfl qD ?_
                  refine L.build rfl bu36 (BP.one rfl rfl rfl <| BP.agg rfl rfl (by first | with_reducible assumption | (simp; done) | (simp only [List.length_map]; with_reducible assumption) | (simp [*]; done) | rfl) (Nat.le_of_ble_eq_true rfl) qR <| BP.doneE (out := []) rfl) ?_
                  refine A.took ?_
                  refine A.branch (is := [9]) (by kernel_rfl) (by decide) (Each.cons rfl ?_ <| Each.nil) 
                  refine L.buildSlice rfl bs22 (by decide) (BP.agg rfl rfl (by first | with_reducible assumption | (simp; done) | (simp only [List.length_map]; with_reducible assumption) | (simp [*]; done) | rfl) (Nat.le_of_ble_eq_true rfl) qR <| BP.doneE (out := []) rfl) (fun b70 => ?_)
                  refine L.toOwn (len := 1) (sz := 4) (e := 36) (rows := (nmeL m).map eT) qP (by rfl) rfl (by simp [nmeL]) ?_
                  refine L.ownRsl qP ?_
                  refine L.fact0 (φ := etsA (nmeL m)) (fun z q hq => by simp only [nmeL, List.mem_singleton] at hq; subst hq; exact rt_leaf) ?_
                  refine A.backT rfl qD ?_
                  refine A.branch (is := [10]) (by kernel_rfl) (by decide) (Each.cons rfl ?_ <| Each.nil) 
                  refine L.call rfl (evs.cons rfl <| evs.nil) qD qS (of_spec (xs := nmeL m) (by decide)) ?_
                  rintro _ _ _ ⟨na, nc, ys, rfl, hk, hs, hyl, rfl, rfl⟩
                  refine L.norm qA qA ?_
                  have hone : ys = nmeL m := of_one hk
                  subst hone
                  refine A.backT rfl qD ?_
                  refine A.branch (is := [11]) (by kernel_rfl) (by decide) (Each.cons rfl ?_ <| Each.nil) 
                  refine L.callF rfl (evs.cons rfl <| evs.nil) qD qS (Chk_spec (x := ofT (nmeL m)) _ _ _ (by rw [nme_cnt]; decide) (nme_sm hm) (show ([] : List UInt8).length ≤ 20000 by decide)) (by rintro u D1 M1 ⟨rfl, rfl, rfl⟩; exact ⟨rfl, _, qA, qF⟩) ?_
                  refine A.backT rfl qD ?_
                  refine A.branch (is := [12]) (by kernel_rfl) (by decide) (Each.cons rfl ?_ <| Each.nil) 
                  refine L.assign rfl rfl ?_
                  refine A.backT rfl qD ?_
                  refine A.done (by kernel_rfl) ?_
                  refine T.thenN ?_
                  exact T.toJoin ⟨_, rfl, rfl, rfl, rfl⟩ (.cons (t := 9) rfl <| SubK.nil _) (.cons (t := 0) rfl <| .cons (t := 5) rfl <| .cons (t := 6) rfl <| .cons (t := 8) rfl <| SubK.nil _) qD qD qF
              · skip
                refine L.callF rfl (evs.cons rfl <| evs.cons rfl <| evs.nil) qD qS (repeat_spec (n := m) (by omega)) (by rintro u D1 M1 ⟨rfl, rfl, rfl⟩; exact ⟨rfl, _, qA, qF⟩) ?_
                refine A.backT rfl qD ?_
                refine A.branch (is := [0]) (by kernel_rfl) (by decide) (Each.cons rfl ?_ <| Each.nil) 
                refine L.makeBytes (k := 0) rfl Try.underlying34 (by kernel_rfl) rfl rfl (by omega) (by omega) (by omega) (fun bmk => ?_)
                refine A.backT rfl qD ?_
                refine A.branch (is := [1]) (by kernel_rfl) (by decide) (Each.cons rfl ?_ <| Each.nil) 
                refine L.bytesStr rfl Try.underlying34 Try.underlying5 Try.underlying9 rfl qM ?_
                refine A.backT rfl qD ?_
                refine A.takeP (i := 3) rfl rfl rfl rfl (by kernel_rfl) (by kernel_rfl) (by kernel_rfl) rfl qD ?_
                refine L.addS rfl rfl rfl qI ?_
                refine A.took ?_
                refine A.takeP (i := 6) rfl rfl rfl rfl (by kernel_rfl) (by kernel_rfl) (by kernel_rfl) rfl qD ?_
                refine L.addS rfl rfl rfl qI ?_
                refine A.took ?_
                refine A.takeP (i := 8) rfl rfl rfl rfl (by kernel_rfl) (by kernel_rfl) (by kernel_rfl) rfl qD ?_
                refine L.build rfl bu36 (BP.one rfl rfl rfl <| BP.agg rfl rfl (by first | with_reducible assumption | (simp; done) | (simp only [List.length_map]; with_reducible assumption) | (simp [*]; done) | rfl) (Nat.le_of_ble_eq_true rfl) qR <| BP.doneE (out := []) rfl) ?_
                refine A.took ?_
                refine A.branch (is := [9]) (by kernel_rfl) (by decide) (Each.cons rfl ?_ <| Each.nil) 
                refine L.buildSlice rfl bs22 (by decide) (BP.agg rfl rfl (by first | with_reducible assumption | (simp; done) | (simp only [List.length_map]; with_reducible assumption) | (simp [*]; done) | rfl) (Nat.le_of_ble_eq_true rfl) qR <| BP.doneE (out := []) rfl) (fun b70 => ?_)
                refine L.toOwn (len := 1) (sz := 4) (e := 36) (rows := (nmeL m).map eT) qP (by rfl) rfl (by simp [nmeL]) ?_
                refine L.ownRsl qP ?_
                refine L.fact0 (φ := etsA (nmeL m)) (fun z q hq => by simp only [nmeL, List.mem_singleton] at hq; subst hq; exact rt_leaf) ?_
                refine A.backT rfl qD ?_
                refine A.branch (is := [10]) (by kernel_rfl) (by decide) (Each.cons rfl ?_ <| Each.nil) 
                refine L.call rfl (evs.cons rfl <| evs.nil) qD qS (of_spec (xs := nmeL m) (by decide)) ?_
                rintro _ _ _ ⟨na, nc, ys, rfl, hk, hs, hyl, rfl, rfl⟩
                refine L.norm qA qA ?_
                have hone : ys = nmeL m := of_one hk
                subst hone
                refine A.backT rfl qD ?_
                refine A.branch (is := [11]) (by kernel_rfl) (by decide) (Each.cons rfl ?_ <| Each.nil) 
                refine L.callF rfl (evs.cons rfl <| evs.nil) qD qS (Chk_spec (x := ofT (nmeL m)) _ _ _ (by rw [nme_cnt]; decide) (nme_sm hm) (show ([] : List UInt8).length ≤ 20000 by decide)) (by rintro u D1 M1 ⟨rfl, rfl, rfl⟩; exact ⟨rfl, _, qA, qF⟩) ?_
                refine A.backT rfl qD ?_
                refine A.branch (is := [12]) (by kernel_rfl) (by decide) (Each.cons rfl ?_ <| Each.nil) 
                refine L.assign rfl rfl ?_
                refine A.backT rfl qD ?_
                refine A.done (by kernel_rfl) ?_
                refine T.thenN ?_
                exact T.toJoin ⟨_, rfl, rfl, rfl, rfl⟩ (.cons (t := 9) rfl <| SubK.nil _) (.cons (t := 0) rfl <| .cons (t := 5) rfl <| .cons (t := 6) rfl <| .cons (t := 8) rfl <| SubK.nil _) qD qD qF
          rintro _ _ _ ⟨e9, he9, rfl, rfl, rfl⟩
          refine T.norm3 qA qA qA ?_
          refine T.thenN ?_
          refine T.seq ?_
          refine T.region ?_
          refine L.move rfl rfl ?_
          refine L.eqI rfl rfl rfl ?_
          refine L.move rfl rfl ?_
          refine L.ltI rfl rfl rfl ?_
          refine L.eqlB Try.underlying4 rfl rfl rfl ?_
          refine L.move rfl rfl ?_
          refine L.known (t := 78) rfl (show _ = Value.bool true from congrArg Value.bool (by rw [hw]; by_cases hq : m < 64 <;> simp [hq] <;> omega)) ?_
          refine L.guardT (dj := 78) rfl rfl rfl ?_
          refine L.move rfl rfl ?_
          refine L.guardT (dj := 78) rfl rfl rfl ?_
          refine L.eqI rfl rfl rfl ?_
          refine L.guardT (dj := 78) rfl rfl rfl ?_
          refine L.move rfl rfl ?_
          refine L.part (t := 81) rfl (fun h2 => ?_) (fun h2 => ?_)
          · try simp only [decide_eq_true_eq, decide_eq_false_iff_not, Bool.not_eq_true', Bool.not_eq_false', Bool.and_eq_true, Bool.or_eq_true] at h2
            refine L.guardF (dj := 81) (c := true) rfl rfl rfl rfl rfl (by decide) ?_
            refine L.guardF (dj := 81) (c := true) rfl rfl rfl rfl rfl (by decide) ?_
            refine L.guardT (dj := 78) rfl rfl rfl ?_
            refine L.pickT rfl rfl rfl ?_
            refine L.pickT rfl rfl rfl ?_
            refine L.move rfl rfl ?_
            refine L.guardT (dj := 86) rfl rfl rfl ?_
            refine L.loadA rfl ag24 rfl qN ?_
            refine L.guardT (dj := 86) rfl rfl rfl ?_
            refine L.callF rfl (evs.cons rfl <| evs.nil) qD qS (Chk_spec (x := deepT jj) a6 l6 c6 (by have := deep_cnt jj (by omega); omega) (deep_sm jj) (by rw [deep_t]; decide)) (by rintro u D1 M1 ⟨rfl, rfl, rfl⟩; exact ⟨rfl, _, qA, qF⟩) ?_
            refine L.guardT (dj := 86) rfl rfl rfl ?_
            refine L.eqI rfl rfl rfl ?_
            refine L.guardT (dj := 86) rfl rfl rfl ?_
            refine L.move rfl rfl ?_
            refine L.guardT (dj := 86) rfl rfl rfl ?_
            refine L.leI rfl rfl rfl ?_
            refine L.guardT (dj := 86) rfl rfl rfl ?_
            refine L.eqlB Try.underlying4 rfl rfl rfl ?_
            refine L.pickT rfl rfl rfl ?_
            refine L.move rfl rfl ?_
            refine L.known (t := 94) rfl (show _ = Value.bool true from congrArg Value.bool (by rw [hdp]; by_cases hq : m ≤ 8 <;> simp [hq] <;> omega)) ?_
            refine L.guardT (dj := 94) rfl rfl rfl ?_
            refine L.move rfl rfl ?_
            refine L.guardT (dj := 94) rfl rfl rfl ?_
            refine L.eqI rfl rfl rfl ?_
            refine L.guardT (dj := 94) rfl rfl rfl ?_
            refine L.move rfl rfl ?_
            refine L.guardT (dj := 94) rfl rfl rfl ?_
            refine L.mulN rfl rfl rfl (by omega) ?_
            refine L.guardT (dj := 94) rfl rfl rfl ?_
            refine L.leI rfl rfl rfl ?_
            refine L.guardT (dj := 94) rfl rfl rfl ?_
            refine L.eqlB Try.underlying4 rfl rfl rfl ?_
            refine L.pickT rfl rfl rfl ?_
            refine L.move rfl rfl ?_
            refine L.known (t := 102) rfl (show _ = Value.bool true from congrArg Value.bool (by rw [hlg]; by_cases hq : 8192 < m * 100 <;> simp [hq] <;> omega)) ?_
            refine L.guardT (dj := 102) rfl rfl rfl ?_
            refine L.move rfl rfl ?_
            refine L.guardT (dj := 102) rfl rfl rfl ?_
            refine L.eqI rfl rfl rfl ?_
            refine L.guardT (dj := 102) rfl rfl rfl ?_
            refine L.move rfl rfl ?_
            refine L.guardT (dj := 102) rfl rfl rfl ?_
            refine L.addN rfl rfl rfl (by omega) ?_
            refine L.guardT (dj := 102) rfl rfl rfl ?_
            refine L.leI rfl rfl rfl ?_
            refine L.guardT (dj := 102) rfl rfl rfl ?_
            refine L.eqlB Try.underlying4 rfl rfl rfl ?_
            refine L.pickT rfl rfl rfl ?_
            refine L.assign rfl rfl ?_
            refine L.nil ?_
            refine T.thenN ?_
            refine T.ret ?_
            exact T.ret1 rfl rfl ⟨congrArg Value.bool (by rw [he9, nme_chk m (by omega)]; by_cases hq : m + 1 ≤ 24 <;> simp [hq] <;> omega), rfl, rfl⟩ qD qF
          · try simp only [decide_eq_true_eq, decide_eq_false_iff_not, Bool.not_eq_true', Bool.not_eq_false', Bool.and_eq_true, Bool.or_eq_true] at h2
            refine L.guardT (dj := 81) rfl rfl rfl ?_
            refine L.move rfl rfl ?_
            refine L.guardT (dj := 81) rfl rfl rfl ?_
            refine L.eqI rfl rfl rfl ?_
            refine L.guardT (dj := 78) rfl rfl rfl ?_
            refine L.pickF rfl rfl rfl ?_
            refine L.pickT rfl rfl rfl ?_
            refine L.move rfl rfl ?_
            refine L.known (t := 86) rfl (show _ = Value.bool true from congrArg Value.bool (decide_eq_true (by omega))) ?_
            refine L.guardT (dj := 86) rfl rfl rfl ?_
            refine L.loadA rfl ag24 rfl qN ?_
            refine L.guardT (dj := 86) rfl rfl rfl ?_
            refine L.callF rfl (evs.cons rfl <| evs.nil) qD qS (Chk_spec (x := deepT jj) a6 l6 c6 (by have := deep_cnt jj (by omega); omega) (deep_sm jj) (by rw [deep_t]; decide)) (by rintro u D1 M1 ⟨rfl, rfl, rfl⟩; exact ⟨rfl, _, qA, qF⟩) ?_
            refine L.guardT (dj := 86) rfl rfl rfl ?_
            refine L.eqI rfl rfl rfl ?_
            refine L.guardT (dj := 86) rfl rfl rfl ?_
            refine L.move rfl rfl ?_
            refine L.guardT (dj := 86) rfl rfl rfl ?_
            refine L.leI rfl rfl rfl ?_
            refine L.guardT (dj := 86) rfl rfl rfl ?_
            refine L.eqlB Try.underlying4 rfl rfl rfl ?_
            refine L.pickT rfl rfl rfl ?_
            refine L.move rfl rfl ?_
            refine L.known (t := 94) rfl (show _ = Value.bool true from congrArg Value.bool (by rw [hdp]; by_cases hq : m ≤ 8 <;> simp [hq] <;> omega)) ?_
            refine L.guardT (dj := 94) rfl rfl rfl ?_
            refine L.move rfl rfl ?_
            refine L.guardT (dj := 94) rfl rfl rfl ?_
            refine L.eqI rfl rfl rfl ?_
            refine L.guardT (dj := 94) rfl rfl rfl ?_
            refine L.move rfl rfl ?_
            refine L.guardT (dj := 94) rfl rfl rfl ?_
            refine L.mulN rfl rfl rfl (by omega) ?_
            refine L.guardT (dj := 94) rfl rfl rfl ?_
            refine L.leI rfl rfl rfl ?_
            refine L.guardT (dj := 94) rfl rfl rfl ?_
            refine L.eqlB Try.underlying4 rfl rfl rfl ?_
            refine L.pickT rfl rfl rfl ?_
            refine L.move rfl rfl ?_
            refine L.known (t := 102) rfl (show _ = Value.bool true from congrArg Value.bool (by rw [hlg]; by_cases hq : 8192 < m * 100 <;> simp [hq] <;> omega)) ?_
            refine L.guardT (dj := 102) rfl rfl rfl ?_
            refine L.move rfl rfl ?_
            refine L.guardT (dj := 102) rfl rfl rfl ?_
            refine L.eqI rfl rfl rfl ?_
            refine L.guardT (dj := 102) rfl rfl rfl ?_
            refine L.move rfl rfl ?_
            refine L.guardT (dj := 102) rfl rfl rfl ?_
            refine L.addN rfl rfl rfl (by omega) ?_
            refine L.guardT (dj := 102) rfl rfl rfl ?_
            refine L.leI rfl rfl rfl ?_
            refine L.guardT (dj := 102) rfl rfl rfl ?_
            refine L.eqlB Try.underlying4 rfl rfl rfl ?_
            refine L.pickT rfl rfl rfl ?_
            refine L.assign rfl rfl ?_
            refine L.nil ?_
            refine T.thenN ?_
            refine T.ret ?_
            exact T.ret1 rfl rfl ⟨congrArg Value.bool (by rw [he9, nme_chk m (by omega)]; by_cases hq : m + 1 ≤ 24 <;> simp [hq] <;> omega), rfl, rfl⟩ qD qF
end Cv
