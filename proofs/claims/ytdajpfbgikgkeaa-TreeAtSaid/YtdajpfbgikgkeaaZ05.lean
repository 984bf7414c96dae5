/-
  The walks: TreeAt.
-/
import Derived.Test.YtdajpfbgikgkeaaY05
import Derived.Test.YtdajpfbgikgkeaaU05
import Derived.Test.YtdajpfbgikgkeaaProg
import Derived.KernelRfl
set_option maxRecDepth 10000
set_option linter.unusedSimpArgs false
set_option linter.unusedVariables false
namespace Cv
open Go Go.Proofs
theorem bs48 : Bs Try.prog 48 9 1 [S []] := bs_of Try.underlying48 (fun w => by kernel_rfl) zv9 rfl rfl (by decide)
theorem el9 : El Try.prog 9 1 16 := ⟨_, _, rfl, rfl, by kernel_rfl, by kernel_rfl, by kernel_rfl⟩
set_option maxHeartbeats 1600000 in
theorem treeAt_spec {x : Tr} {ns : List (List UInt8)} (a : Option Addr) (len cap : Nat) (na : Option Addr) (nl nc : Nat) (hnl : nl ≤ 4611686018427387904) : Spec Try.prog 8 [.agg (iRow x a len cap).toArray, .slice na nl nc] [rtr x (eRow x a len cap), rsl 1 na nl nc (ns.map sr)] [] (fun v D' M' => v = .bool true ∧ D' = [] ∧ M' = []) := by
  refine Spec.intro (n := 147) Try.func8 rfl rfl (by decide) (Nat.le_of_ble_eq_true rfl) rfl (fun _ => qA) (fun _ => qA) ?_
  intro σ D M
  refine T.rslLen2 (a := na) qM (fun hnl2 hnc => ?_)
  rw [List.length_map] at hnl2
  refine T.seq ?_
  refine T.region ?_
  refine L.box rfl rfl rfl (fun b2 => ?_)
  refine L.assign rfl rfl ?_
  refine L.nil ?_
  refine T.thenN ?_
  refine T.seq ?_
  refine T.region ?_
  refine L.loadA rfl ag24 rfl qN ?_
  refine L.call rfl (evs.cons rfl <| evs.nil) qD qS (Right_spec (x := x) a len cap) ?_
  rintro _ _ _ ⟨Y, ya, yl, yc, rfl, hYo, rfl, rfl⟩
  refine L.norm qA qA ?_
  have hYc := hYo.2.1
  have hcx := Y.count_eq
  have hcl := count_le_len Y.ks
  refine L.storeA ag24 rfl rfl qL qO qU qW ?_
  refine L.nil ?_
  refine T.freeze (A := cl b2 24 (iRow Y ya yl yc)) qP ?_
  refine T.trOpenR (x := Y) qM (fun rows hkl hrl => ?_)
  refine T.thenN ?_
  refine T.seq ?_
  refine T.seq ?_
  refine T.region ?_
  refine L.callF rfl (evs.nil) qD qS (awake_spec) (by rintro u D1 M1 ⟨rfl, rfl, rfl⟩; exact ⟨rfl, _, qA, qF⟩) ?_
  refine L.notB rfl rfl ?_
  refine L.nil ?_
  refine T.thenN ?_
  refine T.condF rfl rfl ?_
  refine T.skip ?_
  refine T.thenN ?_
  refine T.seq ?_
  refine T.seq ?_
  refine T.region ?_
  first | refine L.field0 rfl fo24_2 rfl ?_ | refine L.field rfl fo24_2 rfl ?_
  refine L.load rfl sc22 rfl qC ?_
  refine L.lenSl rfl Try.underlying22 rfl ?_
  refine L.move rfl rfl ?_
  refine L.nil ?_
  refine T.thenN ?_
  refine T.block ?_
  refine T.loop (fun K' D' M' μ => ∃ (i : Nat), (i ≤ Y.ks.length) ∧ K' = [(27, .int .i64 i)] ∧ D' = [] ∧ M' = [] ∧ μ = Y.ks.length - i) (.cons (t := 1) rfl <| .cons (t := 2) rfl <| .cons (t := 25) rfl <| .cons (t := 26) rfl <| SubK.nil _) (⟨0, (by omega), rfl, rfl, rfl, rfl⟩) (.cons (t := 27) rfl <| SubK.nil _) qD qS ?_
  rintro K1 D1 M1 m1 ⟨i, hi, rfl, rfl, rfl, rfl⟩
  refine T.norm3 qA qA qA ?_
  refine T.seq ?_
  refine T.region ?_
  refine L.ltI rfl rfl rfl ?_
  refine L.nil ?_
  refine T.thenN ?_
  refine T.seq ?_
  refine T.cond rfl (fun h28 => ?_) (fun h28 => ?_)
  · try simp only [decide_eq_true_eq, decide_eq_false_iff_not, Bool.not_eq_true', Bool.not_eq_false', Bool.and_eq_true, Bool.or_eq_true] at h28
    refine T.skip ?_
    refine T.thenN ?_
    refine T.seq ?_
    refine T.block ?_
    refine T.seq ?_
    have hy : Y.ks[i]? = some (gd Y.ks i) := gd_get (by omega)
    obtain ⟨y, hyy⟩ : ∃ y, y = gd Y.ks i := ⟨_, rfl⟩
    rw [← hyy] at hy
    refine T.kidOpen (rows := rows) qM hy (fun ka kl kc hr => ?_)
    have hcs := countL_step hy
    refine T.region ?_
    refine L.idx (i := i) rfl Try.underlying22 sz36 rfl rfl qM (by first | rfl | omega | (simp; done)) qG (fun b29 o29 => ?_)
    refine L.loadA rfl ag36 rfl qN ?_
    refine L.alloc rfl ze36 (fun b6 => ?_)
    refine L.storeA ag36 rfl rfl qL qO qU qW ?_
    refine L.nil ?_
    refine T.freeze (A := cl b6 36 (eRow y ka kl kc)) qP ?_
    refine T.trOpenR (x := y) qM (fun rows2 hkl2 hrl2 => ?_)
    have hyq := y.count_eq
    have hyl := count_le_len y.ks
    refine T.thenN ?_
    refine T.seq ?_
    refine T.region ?_
    refine L.loadA rfl ag24 rfl qN ?_
    first | refine L.field0 rfl fo36_0 rfl ?_ | refine L.field rfl fo36_0 rfl ?_
    refine L.load rfl sc9 rfl qC ?_
    refine L.buildSlice rfl bs48 (by decide) (BP.one rfl rfl rfl <| BP.doneE (out := []) rfl) (fun b35 => ?_)
    refine L.toOwn (len := 1) (sz := 1) (e := 9) (rows := ([y.n]).map sr) qP (by rfl) rfl (by simp) ?_
    refine L.ownRsl qP ?_
    refine L.call rfl (evs.cons rfl <| evs.cons rfl <| evs.nil) qD qS (at_spec (x := Y) (ss := [y.n]) ya yl yc _ _ _ (by omega) (by decide)) ?_
    rintro _ _ _ ⟨z, za, zl, zc, e, rfl, hz, rfl, rfl⟩
    refine L.norm qA qA ?_
    obtain ⟨rfl, rfl⟩ := hz.get (atT_one hYo.1 hy)
    refine L.move rfl rfl ?_
    refine L.extract rfl rfl rfl ?_
    refine L.extract rfl rfl rfl ?_
    refine L.alloc rfl ze24 (fun b7 => ?_)
    refine L.storeA ag24 rfl rfl qL qO qU qW ?_
    refine L.assign rfl rfl ?_
    refine L.nil ?_
    refine T.thenN ?_
    refine T.seq ?_
    refine T.seq ?_
    refine T.region ?_
    refine L.move rfl rfl ?_
    refine L.neI rfl rfl rfl ?_
    refine L.move rfl rfl ?_
    refine L.known (t := 41) rfl (show _ = Value.bool false from rfl) ?_
    refine L.guardT (dj := 41) rfl rfl rfl ?_
    refine L.loadA rfl ag24 rfl qN ?_
    refine L.guardT (dj := 41) rfl rfl rfl ?_
    first | refine L.field0 rfl fo36_1 rfl ?_ | refine L.field rfl fo36_1 rfl ?_
    refine L.guardT (dj := 41) rfl rfl rfl ?_
    refine L.loadA rfl ag24 rfl qN ?_
    refine L.guardT (dj := 41) rfl rfl rfl ?_
    refine L.callF rfl (evs.cons rfl <| evs.cons rfl <| evs.nil) qD qS (same_spec (x := y) (z := y) (by omega)) (by rintro u D1 M1 ⟨rfl, rfl, rfl⟩; exact ⟨rfl, _, qA, qF⟩) ?_
    refine L.guardT (dj := 41) rfl rfl rfl ?_
    refine L.notB rfl rfl ?_
    refine L.pickF rfl rfl rfl ?_
    refine L.nil ?_
    refine T.thenN ?_
    refine T.condF rfl (by simp [compT_self]) ?_
    refine T.skip ?_
    refine T.thenN ?_
    refine T.seq ?_
    refine T.region ?_
    first | refine L.field0 rfl fo36_1 rfl ?_ | refine L.field rfl fo36_1 rfl ?_
    first | refine L.field0 rfl fo24_2 rfl ?_ | refine L.field rfl fo24_2 rfl ?_
    refine L.load rfl sc22 rfl qC ?_
    refine L.lenSl rfl Try.underlying22 rfl ?_
    refine L.move rfl rfl ?_
    refine L.nil ?_
    refine T.thenN ?_
    refine T.block ?_
    refine T.loop (fun K' D' M' μ => ∃ (j : Nat), (j ≤ y.ks.length) ∧ K' = [(52, .int .i64 j)] ∧ D' = [] ∧ M' = [] ∧ μ = y.ks.length - j) (.cons (t := 1) rfl <| .cons (t := 2) rfl <| .cons (t := 6) rfl <| .cons (t := 25) rfl <| .cons (t := 26) rfl <| .cons (t := 27) rfl <| .cons (t := 50) rfl <| .cons (t := 51) rfl <| SubK.nil _) (⟨0, (by omega), rfl, rfl, rfl, rfl⟩) (.cons (t := 52) rfl <| SubK.nil _) qD qS ?_
    rintro K1 D1 M1 m1 ⟨j, hj, rfl, rfl, rfl, rfl⟩
    refine T.norm3 qA qA qA ?_
    refine T.seq ?_
    refine T.region ?_
    refine L.ltI rfl rfl rfl ?_
    refine L.nil ?_
    refine T.thenN ?_
    refine T.seq ?_
    refine T.cond rfl (fun h53 => ?_) (fun h53 => ?_)
    · try simp only [decide_eq_true_eq, decide_eq_false_iff_not, Bool.not_eq_true', Bool.not_eq_false', Bool.and_eq_true, Bool.or_eq_true] at h53
      refine T.skip ?_
      refine T.thenN ?_
      refine T.seq ?_
      refine T.block ?_
      refine T.seq ?_
      have hw : y.ks[j]? = some (gd y.ks j) := gd_get (by omega)
      obtain ⟨w, hww⟩ : ∃ w, w = gd y.ks j := ⟨_, rfl⟩
      rw [← hww] at hw
      refine T.kidOpen (rows := rows2) qM hw (fun wa wl wc hr2 => ?_)
      have hcs2 := countL_step hw
      refine T.region ?_
      refine L.idx (i := j) rfl Try.underlying22 sz36 rfl rfl qM (by first | rfl | omega | (simp; done)) qG (fun b54 o54 => ?_)
      refine L.loadA rfl ag36 rfl qN ?_
      refine L.alloc rfl ze36 (fun b10 => ?_)
      refine L.storeA ag36 rfl rfl qL qO qU qW ?_
      refine L.nil ?_
      refine T.thenN ?_
      refine T.seq ?_
      refine T.region ?_
      refine L.loadA rfl ag24 rfl qN ?_
      first | refine L.field0 rfl fo36_0 rfl ?_ | refine L.field rfl fo36_0 rfl ?_
      refine L.load rfl sc9 rfl qC ?_
      first | refine L.field0 rfl fo36_0 rfl ?_ | refine L.field rfl fo36_0 rfl ?_
      refine L.load rfl sc9 rfl qC ?_
      refine L.buildSlice rfl bs48 (by decide) (BP.one rfl rfl rfl <| BP.one rfl rfl rfl <| BP.doneE (out := []) rfl) (fun b62 => ?_)
      refine L.toOwn (len := 2) (sz := 1) (e := 9) (rows := ([y.n, w.n]).map sr) qP (by rfl) rfl (by simp) ?_
      refine L.ownRsl qP ?_
      refine L.call rfl (evs.cons rfl <| evs.cons rfl <| evs.nil) qD qS (at_spec (x := Y) (ss := [y.n, w.n]) ya yl yc _ _ _ (by omega) (by decide)) ?_
      rintro _ _ _ ⟨z, za, zl, zc, e, rfl, hz, rfl, rfl⟩
      refine L.norm qA qA ?_
      obtain ⟨rfl, rfl⟩ := hz.get (atT_two hYo.1 hy hw)
      refine L.move rfl rfl ?_
      refine L.extract rfl rfl rfl ?_
      refine L.extract rfl rfl rfl ?_
      refine L.alloc rfl ze24 (fun b11 => ?_)
      refine L.storeA ag24 rfl rfl qL qO qU qW ?_
      refine L.assign rfl rfl ?_
      refine L.nil ?_
      refine T.thenN ?_
      refine T.seq ?_
      refine T.region ?_
      refine L.move rfl rfl ?_
      refine L.neI rfl rfl rfl ?_
      refine L.move rfl rfl ?_
      refine L.known (t := 68) rfl (show _ = Value.bool false from rfl) ?_
      refine L.guardT (dj := 68) rfl rfl rfl ?_
      refine L.loadA rfl ag24 rfl qN ?_
      refine L.guardT (dj := 68) rfl rfl rfl ?_
      first | refine L.field0 rfl fo36_1 rfl ?_ | refine L.field rfl fo36_1 rfl ?_
      refine L.guardT (dj := 68) rfl rfl rfl ?_
      refine L.loadA rfl ag24 rfl qN ?_
      refine L.guardT (dj := 68) rfl rfl rfl ?_
      refine L.callF rfl (evs.cons rfl <| evs.cons rfl <| evs.nil) qD qS (same_spec (x := w) (z := w) (by omega)) (by rintro u D1 M1 ⟨rfl, rfl, rfl⟩; exact ⟨rfl, _, qA, qF⟩) ?_
      refine L.guardT (dj := 68) rfl rfl rfl ?_
      refine L.notB rfl rfl ?_
      refine L.pickF rfl rfl rfl ?_
      refine L.nil ?_
      refine T.thenN ?_
      refine T.condF rfl (by simp [compT_self]) ?_
      refine T.skip ?_
      refine T.blkN ?_
      refine T.thenN ?_
      refine T.region ?_
      refine L.addN rfl rfl rfl (by omega) ?_
      refine L.move rfl rfl ?_
      refine L.nil ?_
      refine T.thenN ?_
      exact T.back ⟨j + 1, (by omega), rfl, rfl, rfl, rfl⟩ qI (.cons (t := 52) rfl <| SubK.nil _) (.cons (t := 1) rfl <| .cons (t := 2) rfl <| .cons (t := 6) rfl <| .cons (t := 25) rfl <| .cons (t := 26) rfl <| .cons (t := 27) rfl <| .cons (t := 50) rfl <| .cons (t := 51) rfl <| SubK.nil _) qD qD qF
    · try simp only [decide_eq_true_eq, decide_eq_false_iff_not, Bool.not_eq_true', Bool.not_eq_false', Bool.and_eq_true, Bool.or_eq_true] at h53
      refine T.exit ?_
      refine T.thenX ?_
      refine T.thenX ?_
      refine T.blkX ?_
      refine T.blkN ?_
      refine T.thenN ?_
      refine T.region ?_
      refine L.addN rfl rfl rfl (by omega) ?_
      refine L.move rfl rfl ?_
      refine L.nil ?_
      refine T.thenN ?_
      exact T.back ⟨i + 1, (by omega), rfl, rfl, rfl, rfl⟩ qI (.cons (t := 27) rfl <| SubK.nil _) (.cons (t := 1) rfl <| .cons (t := 2) rfl <| .cons (t := 25) rfl <| .cons (t := 26) rfl <| SubK.nil _) qD qD qF
  · try simp only [decide_eq_true_eq, decide_eq_false_iff_not, Bool.not_eq_true', Bool.not_eq_false', Bool.and_eq_true, Bool.or_eq_true] at h28
    refine T.exit ?_
    refine T.thenX ?_
    refine T.thenX ?_
    refine T.blkX ?_
    refine T.thenN ?_
    refine T.seq ?_
    refine T.region ?_
    refine L.buildSlice rfl bs48 (by decide) (BP.doneE (out := []) rfl) (fun b77 => ?_)
    refine L.toOwn (len := 0) (sz := 1) (e := 9) (rows := (([] : List (List UInt8))).map sr) qP (by rfl) rfl (by simp) ?_
    refine L.assign rfl rfl ?_
    refine L.nil ?_
    refine T.thenN ?_
    refine T.seq ?_
    refine T.seq ?_
    refine T.region ?_
    refine L.assign rfl rfl ?_
    refine L.nil ?_
    refine T.thenN ?_
    refine T.block ?_
    refine T.loop (fun K' D' M' μ => ∃ (q : Nat) (a1 : Option Addr) (c1 : Nat) (acc : List (List UInt8)), (q ≤ nl ∧ q ≤ 4 ∧ acc.length = q) ∧ K' = [(14, .int .i64 q), (13, .slice a1 q c1)] ∧ D' = [] ∧ M' = [own 1 9 a1 q c1 (acc.map sr)] ∧ μ = 4 - q) (.cons (t := 1) rfl <| .cons (t := 2) rfl <| SubK.nil _) (⟨0, _, _, [], ⟨by omega, by omega, rfl⟩, rfl, rfl, rfl, rfl⟩) (.cons (t := 14) rfl <| .cons (t := 13) rfl <| SubK.nil _) qD qS ?_
    rintro K1 D1 M1 m1 ⟨q, a1, c1, acc, ⟨hq1, hq2, hal⟩, rfl, rfl, rfl, rfl⟩
    refine T.norm3 qA qA qA ?_
    refine T.seq ?_
    refine T.seq ?_
    refine T.cutC (fun K' D' M' => ∃ (q0 : Bool), (q0 = true ↔ (q < nl ∧ q < 4)) ∧ K' = [(85, .bool q0)] ∧ D' = [] ∧ M' = []) (M0 := []) (.cons (t := 1) rfl <| .cons (t := 2) rfl <| .cons (t := 13) rfl <| .cons (t := 14) rfl <| SubK.nil _) qS ?_ ?_
    · skip
      refine T.region ?_
      refine L.move rfl rfl ?_
      refine L.move rfl rfl ?_
      refine L.lenSl rfl Try.underlying48 rfl ?_
      refine L.ltI rfl rfl rfl ?_
      refine L.move rfl rfl ?_
      refine L.part (t := 82) rfl (fun h1 => ?_) (fun h1 => ?_)
      · try simp only [decide_eq_true_eq, decide_eq_false_iff_not, Bool.not_eq_true', Bool.not_eq_false', Bool.and_eq_true, Bool.or_eq_true] at h1
        refine L.guardT (dj := 82) rfl rfl rfl ?_
        refine L.move rfl rfl ?_
        refine L.guardT (dj := 82) rfl rfl rfl ?_
        refine L.ltI rfl rfl rfl ?_
        refine L.pickT rfl rfl rfl ?_
        refine L.nil ?_
        refine T.thenN ?_
        exact T.toJoin ⟨_, (by simp_all <;> omega), rfl, rfl, rfl⟩ (.cons (t := 85) rfl <| SubK.nil _) (.cons (t := 1) rfl <| .cons (t := 2) rfl <| .cons (t := 13) rfl <| .cons (t := 14) rfl <| SubK.nil _) qD qD qF
      · try simp only [decide_eq_true_eq, decide_eq_false_iff_not, Bool.not_eq_true', Bool.not_eq_false', Bool.and_eq_true, Bool.or_eq_true] at h1
        refine L.guardF (dj := 82) (c := false) rfl rfl rfl rfl rfl (by decide) ?_
        refine L.guardF (dj := 82) (c := false) rfl rfl rfl rfl rfl (by decide) ?_
        refine L.pickF rfl rfl rfl ?_
        refine L.nil ?_
        refine T.thenN ?_
        exact T.toJoin ⟨_, (by simp_all <;> omega), rfl, rfl, rfl⟩ (.cons (t := 85) rfl <| SubK.nil _) (.cons (t := 1) rfl <| .cons (t := 2) rfl <| .cons (t := 13) rfl <| .cons (t := 14) rfl <| SubK.nil _) qD qD qF
    rintro _ _ _ ⟨q0, hq0, rfl, rfl, rfl⟩
    refine T.norm3 qA qA qA ?_
    refine T.thenN ?_
    refine T.cond rfl (fun h85 => ?_) (fun h85 => ?_)
    · try simp only [decide_eq_true_eq, decide_eq_false_iff_not, Bool.not_eq_true', Bool.not_eq_false', Bool.and_eq_true, Bool.or_eq_true] at h85
      have hlt := hq0.1 h85
      refine T.skip ?_
      refine T.thenN ?_
      refine T.seq ?_
      refine T.block ?_
      have hn0 : ns[q]? = some (gd ns q) := gd_get (by omega)
      refine T.region ?_
      refine L.move rfl rfl ?_
      refine L.move rfl rfl ?_
      refine L.move rfl rfl ?_
      refine L.idx (i := q) rfl Try.underlying48 sz9 rfl rfl qM (by first | rfl | omega | (simp; done)) qG (fun b91 o91 => ?_)
      refine L.load rfl sc9 rfl qC ?_
      refine L.callF rfl (evs.cons rfl <| evs.cons rfl <| evs.nil) qD qS (cut_spec (n := 20)) (by rintro u D1 M1 ⟨rfl, rfl, rfl⟩; exact ⟨rfl, _, qA, qF⟩) ?_
      refine L.buildSlice rfl bs48 (by decide) (BP.one rfl rfl rfl <| BP.doneE (out := []) rfl) (fun b94 => ?_)
      refine L.append1 rfl Try.underlying48 el9 rfl rfl qP qM rfl qO1 qI qI (fun a95 c95 => ?_)
      refine L.assign rfl rfl ?_
      refine L.nil ?_
      refine T.blkN ?_
      refine T.thenN ?_
      refine T.region ?_
      refine L.move rfl rfl ?_
      refine L.addN rfl rfl rfl (by omega) ?_
      refine L.assign rfl rfl ?_
      refine L.nil ?_
      refine T.thenN ?_
      refine T.ownEq _ ((acc ++ [(gd ns q).take 20]).map sr) qP (by rw [List.map_append]; rfl) ?_
      exact T.back ⟨q + 1, _, _, acc ++ [(gd ns q).take 20], ⟨by omega, by omega, by simp [hal]⟩, rfl, rfl, rfl, rfl⟩ qI (.cons (t := 14) rfl <| .cons (t := 13) rfl <| SubK.nil _) (.cons (t := 1) rfl <| .cons (t := 2) rfl <| SubK.nil _) qD qD qF
    · try simp only [decide_eq_true_eq, decide_eq_false_iff_not, Bool.not_eq_true', Bool.not_eq_false', Bool.and_eq_true, Bool.or_eq_true] at h85
      refine T.exit ?_
      refine T.thenX ?_
      refine T.thenX ?_
      refine T.blkX ?_
      refine T.thenN ?_
      refine T.seq ?_
      refine T.ownRsl (rows := acc.map sr) qP ?_
      refine T.region ?_
      refine L.loadA rfl ag24 rfl qN ?_
      refine L.move rfl rfl ?_
      refine L.call rfl (evs.cons rfl <| evs.cons rfl <| evs.nil) qD qS (at_spec (x := Y) (ss := acc) ya yl yc _ _ _ (by omega) (by omega)) ?_
      rintro _ _ _ ⟨z, za, zl, zc, e, rfl, hz, rfl, rfl⟩
      refine L.norm qA qA ?_
      refine L.move rfl rfl ?_
      refine L.extract rfl rfl rfl ?_
      refine L.extract rfl rfl rfl ?_
      refine L.alloc rfl ze24 (fun b15 => ?_)
      refine L.storeA ag24 rfl rfl qL qO qU qW ?_
      refine L.assign rfl rfl ?_
      refine L.nil ?_
      refine T.thenN ?_
      refine T.seq ?_
      refine T.seq ?_
      refine T.cutC (fun K' D' M' => ∃ (q3 : Bool), (q3 = false) ∧ K' = [(123, .bool q3)] ∧ D' = [] ∧ M' = []) (M0 := []) (.cons (t := 2) rfl <| SubK.nil _) qS ?_ ?_
      · skip
        rcases at3 hz with ⟨hs0, hzY, rfl⟩ | ⟨rfl, hs0⟩ | ⟨rfl, hs0, hz3⟩
        · skip
          refine T.region ?_
          refine L.move rfl rfl ?_
          refine L.neI rfl rfl rfl ?_
          refine L.move rfl rfl ?_
          refine L.known (t := 104) rfl (show _ = Value.bool false from congrArg Value.bool (by simp)) ?_
          refine L.guardF (dj := 104) (c := false) rfl rfl rfl rfl rfl (by decide) ?_
          refine L.guardF (dj := 104) (c := false) rfl rfl rfl rfl rfl (by decide) ?_
          refine L.guardF (dj := 104) (c := false) rfl rfl rfl rfl rfl (by decide) ?_
          refine L.guardU (dj := 107) rfl rfl rfl rfl rfl ?_
          refine L.guardU (dj := 107) rfl rfl rfl rfl rfl ?_
          refine L.guardU (dj := 107) rfl rfl rfl rfl rfl ?_
          refine L.guardF (dj := 104) (c := false) rfl rfl rfl rfl rfl (by decide) ?_
          refine L.pickF rfl rfl rfl ?_
          refine L.move rfl rfl ?_
          refine L.guardT (dj := 113) rfl rfl rfl ?_
          refine L.move rfl rfl ?_
          refine L.guardT (dj := 113) rfl rfl rfl ?_
          refine L.lenSl rfl Try.underlying48 rfl ?_
          refine L.guardT (dj := 113) rfl rfl rfl ?_
          refine L.eqI rfl rfl rfl ?_
          refine L.guardT (dj := 113) rfl rfl rfl ?_
          refine L.move rfl rfl ?_
          refine L.known (t := 117) rfl (show _ = Value.bool true from congrArg Value.bool (decide_eq_true (by omega))) ?_
          refine L.guardT (dj := 117) rfl rfl rfl ?_
          refine L.loadA rfl ag24 rfl qN ?_
          refine L.guardT (dj := 117) rfl rfl rfl ?_
          refine L.loadA rfl ag24 rfl qN ?_
          refine L.guardT (dj := 117) rfl rfl rfl ?_
          refine L.callF rfl (evs.cons rfl <| evs.cons rfl <| evs.nil) qD qS (same_spec (x := Y) (z := z) (by omega)) (by rintro u D1 M1 ⟨rfl, rfl, rfl⟩; exact ⟨rfl, _, qA, qF⟩) ?_
          refine L.guardT (dj := 117) rfl rfl rfl ?_
          refine L.notB rfl rfl ?_
          refine L.guardT (dj := 113) rfl rfl rfl ?_
          refine L.pickT rfl rfl rfl ?_
          refine L.pickF rfl rfl rfl ?_
          refine L.nil ?_
          refine T.thenN ?_
          exact T.toJoin ⟨_, (by simp_all [compT_self]), rfl, rfl, rfl⟩ (.cons (t := 123) rfl <| SubK.nil _) (.cons (t := 2) rfl <| SubK.nil _) qD qD qF
        · skip
          refine T.region ?_
          refine L.move rfl rfl ?_
          refine L.neI rfl rfl rfl ?_
          refine L.move rfl rfl ?_
          refine L.known (t := 104) rfl (show _ = Value.bool false from congrArg Value.bool (by simp)) ?_
          refine L.guardF (dj := 104) (c := false) rfl rfl rfl rfl rfl (by decide) ?_
          refine L.guardF (dj := 104) (c := false) rfl rfl rfl rfl rfl (by decide) ?_
          refine L.guardF (dj := 104) (c := false) rfl rfl rfl rfl rfl (by decide) ?_
          refine L.guardU (dj := 107) rfl rfl rfl rfl rfl ?_
          refine L.guardU (dj := 107) rfl rfl rfl rfl rfl ?_
          refine L.guardU (dj := 107) rfl rfl rfl rfl rfl ?_
          refine L.guardF (dj := 104) (c := false) rfl rfl rfl rfl rfl (by decide) ?_
          refine L.pickF rfl rfl rfl ?_
          refine L.move rfl rfl ?_
          refine L.guardT (dj := 113) rfl rfl rfl ?_
          refine L.move rfl rfl ?_
          refine L.guardT (dj := 113) rfl rfl rfl ?_
          refine L.lenSl rfl Try.underlying48 rfl ?_
          refine L.guardT (dj := 113) rfl rfl rfl ?_
          refine L.eqI rfl rfl rfl ?_
          refine L.guardT (dj := 113) rfl rfl rfl ?_
          refine L.move rfl rfl ?_
          refine L.known (t := 117) rfl (show _ = Value.bool false from congrArg Value.bool (decide_eq_false (by omega))) ?_
          refine L.guardF (dj := 117) (c := false) rfl rfl rfl rfl rfl (by decide) ?_
          refine L.guardF (dj := 117) (c := false) rfl rfl rfl rfl rfl (by decide) ?_
          refine L.guardF (dj := 117) (c := false) rfl rfl rfl rfl rfl (by decide) ?_
          refine L.guardF (dj := 117) (c := false) rfl rfl rfl rfl rfl (by decide) ?_
          refine L.guardT (dj := 113) rfl rfl rfl ?_
          refine L.pickF rfl rfl rfl ?_
          refine L.pickF rfl rfl rfl ?_
          refine L.nil ?_
          refine T.thenN ?_
          exact T.toJoin ⟨_, (by simp_all [compT_self]), rfl, rfl, rfl⟩ (.cons (t := 123) rfl <| SubK.nil _) (.cons (t := 2) rfl <| SubK.nil _) qD qD qF
        · skip
          refine T.region ?_
          refine L.move rfl rfl ?_
          refine L.neI rfl rfl rfl ?_
          refine L.move rfl rfl ?_
          refine L.known (t := 104) rfl (show _ = Value.bool true from congrArg Value.bool (by simp)) ?_
          refine L.guardT (dj := 104) rfl rfl rfl ?_
          refine L.move rfl rfl ?_
          refine L.guardT (dj := 104) rfl rfl rfl ?_
          refine L.neI rfl rfl rfl ?_
          refine L.guardT (dj := 104) rfl rfl rfl ?_
          refine L.move rfl rfl ?_
          refine L.known (t := 107) rfl (show _ = Value.bool false from congrArg Value.bool (by simp)) ?_
          refine L.guardT (dj := 107) rfl rfl rfl ?_
          first | refine L.field0 rfl fo24_0 rfl ?_ | refine L.field rfl fo24_0 rfl ?_
          refine L.guardT (dj := 107) rfl rfl rfl ?_
          refine L.load rfl sc3 rfl qC ?_
          refine L.guardT (dj := 107) rfl rfl rfl ?_
          refine L.neI rfl rfl rfl ?_
          refine L.guardT (dj := 104) rfl rfl rfl ?_
          refine L.pickF rfl rfl rfl ?_
          refine L.pickT rfl rfl rfl ?_
          refine L.move rfl rfl ?_
          refine L.known (t := 113) rfl (show _ = Value.bool false from congrArg Value.bool (by simp [hz3])) ?_
          refine L.guardT (dj := 113) rfl rfl rfl ?_
          refine L.move rfl rfl ?_
          refine L.guardT (dj := 113) rfl rfl rfl ?_
          refine L.lenSl rfl Try.underlying48 rfl ?_
          refine L.guardT (dj := 113) rfl rfl rfl ?_
          refine L.eqI rfl rfl rfl ?_
          refine L.guardT (dj := 113) rfl rfl rfl ?_
          refine L.move rfl rfl ?_
          refine L.known (t := 117) rfl (show _ = Value.bool false from congrArg Value.bool (decide_eq_false (by omega))) ?_
          refine L.guardF (dj := 117) (c := false) rfl rfl rfl rfl rfl (by decide) ?_
          refine L.guardF (dj := 117) (c := false) rfl rfl rfl rfl rfl (by decide) ?_
          refine L.guardF (dj := 117) (c := false) rfl rfl rfl rfl rfl (by decide) ?_
          refine L.guardF (dj := 117) (c := false) rfl rfl rfl rfl rfl (by decide) ?_
          refine L.guardT (dj := 113) rfl rfl rfl ?_
          refine L.pickF rfl rfl rfl ?_
          refine L.pickF rfl rfl rfl ?_
          refine L.nil ?_
          refine T.thenN ?_
          exact T.toJoin ⟨_, (by simp_all [compT_self]), rfl, rfl, rfl⟩ (.cons (t := 123) rfl <| SubK.nil _) (.cons (t := 2) rfl <| SubK.nil _) qD qD qF
      rintro _ _ _ ⟨q3, hq3, rfl, rfl, rfl⟩
      refine T.norm3 qA qA qA ?_
      refine T.thenN ?_
      refine T.condF rfl hq3 ?_
      refine T.skip ?_
      refine T.thenN ?_
      refine T.seq ?_
      refine T.region ?_
      refine L.loadA rfl ag24 rfl qN ?_
      refine L.call rfl (evs.cons rfl <| evs.nil) qD qS (clone_spec Y ya yl yc (by omega)) ?_
      rintro _ _ _ ⟨ca, cc, rfl, rfl, rfl⟩
      refine L.norm qA qA ?_
      refine L.alloc rfl ze24 (fun b17 => ?_)
      refine L.storeA ag24 rfl rfl qL qO qU qW ?_
      refine L.nil ?_
      refine T.freeze (A := cl b17 24 (iRow Y ca yl cc)) qP ?_
      refine T.thenN ?_
      refine T.seq ?_
      refine T.region ?_
      refine L.loadA rfl ag24 rfl qN ?_
      refine L.loadA rfl ag24 rfl qN ?_
      refine L.callF rfl (evs.cons rfl <| evs.cons rfl <| evs.nil) qD qS (Spec.lend (A := otr 36 Y (eRow Y ca yl cc)) (otr_rt Y _) (same_spec (x := Y) (z := Y) (by omega))) (by rintro u D1 M1 ⟨rfl, rfl, rfl⟩; exact ⟨rfl, _, qA, qF⟩) ?_
      refine L.assign rfl rfl ?_
      refine L.nil ?_
      refine T.thenN ?_
      refine T.seq ?_
      refine T.seq ?_
      refine T.otrOpen (x := Y) qP (fun rows3 hkl3 hrl3 => ?_)
      refine T.region ?_
      first | refine L.field0 rfl fo24_2 rfl ?_ | refine L.field rfl fo24_2 rfl ?_
      refine L.load rfl sc22 rfl qC ?_
      refine L.lenSl rfl Try.underlying22 rfl ?_
      refine L.move rfl rfl ?_
      refine L.nil ?_
      refine T.thenN ?_
      refine T.block ?_
      refine T.loop (fun K' D' M' μ => ∃ (m : Nat) (rws : List (List Value)), (m ≤ yl ∧ rws.length = yl) ∧ K' = [(132, .int .i64 m)] ∧ D' = [] ∧ M' = [own 4 36 ca yl cc rws] ∧ μ = yl - m) (.cons (t := 2) rfl <| .cons (t := 17) rfl <| .cons (t := 18) rfl <| .cons (t := 131) rfl <| SubK.nil _) (⟨0, _, ⟨by omega, hrl3⟩, rfl, rfl, rfl, rfl⟩) (.cons (t := 132) rfl <| SubK.nil _) qD qS ?_
      rintro K1 D1 M1 m1 ⟨m, rws, ⟨hm, hrwl⟩, rfl, rfl, rfl, rfl⟩
      refine T.norm3 qA qA qA ?_
      refine T.seq ?_
      refine T.region ?_
      refine L.ltI rfl rfl rfl ?_
      refine L.nil ?_
      refine T.thenN ?_
      refine T.seq ?_
      refine T.cond rfl (fun h133 => ?_) (fun h133 => ?_)
      · try simp only [decide_eq_true_eq, decide_eq_false_iff_not, Bool.not_eq_true', Bool.not_eq_false', Bool.and_eq_true, Bool.or_eq_true] at h133
        refine T.skip ?_
        refine T.thenN ?_
        refine T.seq ?_
        refine T.block ?_
        refine T.seq ?_
        refine T.region ?_
        refine L.move rfl rfl ?_
        refine L.assign rfl rfl ?_
        refine L.nil ?_
        refine T.thenN ?_
        refine T.ownNe qM (by omega) (fun b o ha => ?_)
        subst ha
        refine T.region ?_
        first | refine L.field0 rfl fo24_2 rfl ?_ | refine L.field rfl fo24_2 rfl ?_
        refine L.load rfl sc22 rfl qC ?_
        refine L.move rfl rfl ?_
        refine L.build rfl bu36 (BP.one rfl rfl rfl <| BP.doneE (out := [Value.int .i64 0, S [], Value.slice none 0 0]) rfl) ?_
        refine L.idxG rfl Try.underlying22 sz36 rfl rfl rfl qI ?_
        refine L.storeOA (m) ag36 rfl (by first | rfl | omega | (simp; done)) rfl qL qO qP qI ?_
        refine L.nil ?_
        refine T.blkN ?_
        refine T.thenN ?_
        refine T.region ?_
        refine L.addN rfl rfl rfl (by omega) ?_
        refine L.move rfl rfl ?_
        refine L.nil ?_
        refine T.thenN ?_
        refine T.ownEq _ (rws.set m [S [111, 116, 104, 101, 114], .int .i64 0, S [], .slice none 0 0]) qP (by rfl) ?_
        exact T.back ⟨m + 1, rws.set m [S [111, 116, 104, 101, 114], .int .i64 0, S [], .slice none 0 0], ⟨by omega, by simp only [List.length_set]; exact hrwl⟩, rfl, rfl, rfl, rfl⟩ qI (.cons (t := 132) rfl <| SubK.nil _) (.cons (t := 2) rfl <| .cons (t := 17) rfl <| .cons (t := 18) rfl <| .cons (t := 131) rfl <| SubK.nil _) qD qD qF
      · try simp only [decide_eq_true_eq, decide_eq_false_iff_not, Bool.not_eq_true', Bool.not_eq_false', Bool.and_eq_true, Bool.or_eq_true] at h133
        refine T.exit ?_
        refine T.thenX ?_
        refine T.thenX ?_
        refine T.blkX ?_
        refine T.thenN ?_
        refine T.seq ?_
        refine T.region ?_
        refine L.move rfl rfl ?_
        refine L.move rfl rfl ?_
        refine L.known (t := 142) rfl (show _ = Value.bool true from congrArg Value.bool (by simp [compT_self])) ?_
        refine L.guardT (dj := 142) rfl rfl rfl ?_
        refine L.loadA rfl ag24 rfl qN ?_
        refine L.guardT (dj := 142) rfl rfl rfl ?_
        refine L.callF rfl (evs.cons rfl <| evs.nil) qD qS (Chk_spec (x := Y) _ _ _ (by omega) hYo.2.2.1 hYo.2.2.2) (by rintro u D1 M1 ⟨rfl, rfl, rfl⟩; exact ⟨rfl, _, qA, qF⟩) ?_
        refine L.guardT (dj := 142) rfl rfl rfl ?_
        refine L.eqI rfl rfl rfl ?_
        refine L.pickT rfl rfl rfl ?_
        refine L.assign rfl rfl ?_
        refine L.nil ?_
        refine T.thenN ?_
        refine T.ret ?_
        exact T.ret1 rfl rfl ⟨congrArg Value.bool (by simp [hYo.1, compT_self]), rfl, rfl⟩ qD qF
end Cv
