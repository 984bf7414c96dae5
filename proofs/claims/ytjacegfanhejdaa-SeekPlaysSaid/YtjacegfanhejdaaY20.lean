/-
  The walks: the walks of the document's search, further.
-/
import Derived.Test.YtjacegfanhejdaaW20
import Derived.Test.YtjacegfanhejdaaProg
import Derived.KernelRfl
set_option linter.unusedVariables false
set_option linter.unusedSimpArgs false
set_option linter.unusedSectionVars false
set_option maxRecDepth 10000
namespace Cv
open Go Go.Proofs
theorem zv4 : ∀ w, (zeroValue 4).run Try.prog w = .ok (Value.bool false) w := fun w => by kernel_rfl
theorem bs44 : Bs Try.prog 44 4 1 [Value.bool false] := bs_of Try.underlying44 (fun w => by kernel_rfl) zv4 rfl rfl (by decide)
theorem fo46_4 : Fo Try.prog 46 4 4 := fun a w => by kernel_rfl
theorem sc44 : Sc Try.prog 44 := fun w => ⟨by kernel_rfl, by kernel_rfl⟩
theorem el4 : El Try.prog 4 1 1 := ⟨_, _, rfl, rfl, by kernel_rfl, by kernel_rfl, by kernel_rfl⟩
theorem sz4 : Sz Try.prog 4 1 := fun w => by kernel_rfl
theorem sc4 : Sc Try.prog 4 := fun w => ⟨by kernel_rfl, by kernel_rfl⟩
theorem fo46_0 : Fo Try.prog 46 0 0 := fun a w => by kernel_rfl
set_option maxHeartbeats 400000 in
theorem rhas_spec {g : List UInt8} {o : Int} {p : XP} {hv : List Bool} {a : Option Addr} {len cap : Nat} {ns : List Int} (hb : len ≤ 9223372036854775807) : Spec Try.prog 23 [.agg (xV g o p).toArray, .slice a len cap] [rsl 1 p.2.2.1 64 p.2.2.2 (hv.map e4), rsl 1 a len cap (ns.map e3)] [] (fun v D' M' => ∃ (a' : Option Addr) (c' : Nat), v = .agg (xV g o (p.1, p.2.1, (a', c'))).toArray ∧ D' = [rsl 1 a' 64 c' ((rhasF o hv ns).map e4)] ∧ M' = []) := by
  refine Spec.intro (n := 28) Try.func23 rfl rfl (by decide) (Nat.le_of_ble_eq_true rfl) rfl (fun _ => qA) (fun _ => qA) ?_
  intro σ D M
  refine T.rslLen2 (rows := hv.map e4) qM (fun hhv hhvc => ?_)
  rw [List.length_map] at hhv
  refine T.rslLen2 (rows := ns.map e3) qM (fun hnl hnc => ?_)
  rw [List.length_map] at hnl
  refine T.seq ?_
  refine T.region ?_
  refine L.box rfl rfl rfl (fun b2 => ?_)
  refine L.alloc rfl ze46 (fun b4 => ?_)
  refine L.nil ?_
  refine T.thenN ?_
  refine T.seq ?_
  refine T.region ?_
  refine L.buildSlice rfl bs44 (by decide) (BP.doneE (out := []) rfl) (fun b8 => ?_)
  refine L.toOwn (len := 0) qP (rows := []) (sz := 1) (by rfl) rfl (by simp) ?_
  first | refine L.field0 rfl fo46_4 rfl ?_ | refine L.field rfl fo46_4 rfl ?_
  refine L.load rfl sc44 rfl qC ?_
  refine L.appendR rfl Try.underlying44 Try.underlying44 el4 rfl rfl qP (rd_D qM) one_bool qI qI (fun a11 c11 => ?_)
  refine L.assign rfl rfl ?_
  refine L.nil ?_
  simp only [Nat.zero_add, List.nil_append]
  refine T.ownNe qM (by omega) (fun ob oo ha => ?_)
  subst ha
  refine T.thenN ?_
  refine T.seq ?_
  refine T.seq ?_
  refine T.region ?_
  refine L.move rfl rfl ?_
  refine L.lenSl rfl Try.underlying22 rfl ?_
  refine L.move rfl rfl ?_
  refine L.nil ?_
  refine T.thenN ?_
  refine T.block ?_
  refine T.ownEq _ ((rhasF o hv (ns.take 0)).map e4) qP (by rw [List.take_zero]; rfl) ?_
  refine T.loop (fun K' D' M' μ => ∃ (i : Nat), (i ≤ len) ∧ K' = [(14, .int .i64 i)] ∧ D' = [] ∧ M' = [own 1 4 (some ⟨ob, oo, none⟩) 64 c11 ((rhasF o hv (ns.take i)).map e4)] ∧ μ = len - i) (.cons (t := 2) rfl <| .cons (t := 4) rfl <| .cons (t := 5) rfl <| .cons (t := 12) rfl <| .cons (t := 13) rfl <| SubK.nil _) (⟨0, Nat.zero_le _, rfl, rfl, rfl, rfl⟩) (.cons (t := 14) rfl <| SubK.nil _) qD qS ?_
  rintro K1 D1 M1 m1 ⟨i, hi, rfl, rfl, rfl, rfl⟩
  refine T.norm3 qA qA qA ?_
  refine T.seq ?_
  refine T.region ?_
  refine L.ltI rfl rfl rfl ?_
  refine L.nil ?_
  refine T.thenN ?_
  refine T.seq ?_
  refine T.cond rfl (fun h15 => ?_) (fun h15 => ?_)
  · try simp only [decide_eq_true_eq, decide_eq_false_iff_not, Bool.not_eq_true', Bool.not_eq_false', Bool.and_eq_true, Bool.or_eq_true] at h15
    refine T.skip ?_
    refine T.thenN ?_
    refine T.seq ?_
    refine T.block ?_
    refine T.seq ?_
    have hn0 : ns[i]? = some (gd ns i) := gd_get (by omega)
    obtain ⟨n, hnn⟩ : ∃ n, n = gd ns i := ⟨_, rfl⟩
    rw [← hnn] at hn0
    obtain ⟨cs, hcs⟩ : ∃ cs, cs = rhasF o hv (ns.take i) := ⟨_, rfl⟩
    rw [← hcs]
    have hcl : cs.length = 64 := by rw [hcs, rhas_len, hhv]
    refine T.region ?_
    refine L.idx (i := i) rfl Try.underlying22 sz3 rfl rfl qM (by first | rfl | omega | (simp; done)) qG (fun b16 o16 => ?_)
    refine L.load rfl sc3 rfl qC ?_
    refine L.assign rfl rfl ?_
    refine L.nil ?_
    refine T.thenN ?_
    refine T.seq ?_
    refine T.region ?_
    refine L.loadA rfl ag46 rfl qN ?_
    refine L.move rfl rfl ?_
    refine L.callF rfl (evs.cons rfl <| evs.cons rfl <| evs.nil) qD qS (rin_spec (n := n)) (by rintro u D1 M1 ⟨rfl, rfl, rfl⟩; exact ⟨rfl, _, qA, qF⟩) ?_
    refine L.nil ?_
    refine T.thenN ?_
    refine T.cond rfl (fun h20 => ?_) (fun h20 => ?_)
    · try simp only [decide_eq_true_eq, decide_eq_false_iff_not, Bool.not_eq_true', Bool.not_eq_false', Bool.and_eq_true, Bool.or_eq_true] at h20
      have hs0 := h20.2.1
      have hs1 := h20.2.2
      refine T.region ?_
      refine L.move rfl rfl ?_
      refine L.move rfl rfl ?_
      refine L.idxG (i := n.toNat) rfl Try.underlying44 sz4 rfl rfl (by first | rfl | omega | (simp; done)) qI ?_
      refine L.storeO (n.toNat) sc4 rfl (by first | rfl | omega | (simp; done)) rfl rfl qP qI ?_
      refine L.nil ?_
      refine T.blkN ?_
      refine T.thenN ?_
      refine T.region ?_
      refine L.addN rfl rfl rfl (by omega) ?_
      refine L.move rfl rfl ?_
      refine L.nil ?_
      refine T.thenN ?_
      refine T.ownEq _ ((rhasF o hv (ns.take (i + 1))).map e4) qP (by rw [rhasF, fold_snoc hn0, ← rhasF, ← hcs, rhas1, if_pos h20, List.map_set]) ?_
      exact T.back ⟨i + 1, (by omega), rfl, rfl, rfl, rfl⟩ qI (.cons (t := 14) rfl <| SubK.nil _) (.cons (t := 2) rfl <| .cons (t := 4) rfl <| .cons (t := 5) rfl <| .cons (t := 12) rfl <| .cons (t := 13) rfl <| SubK.nil _) qD qD qF
    · try simp only [decide_eq_true_eq, decide_eq_false_iff_not, Bool.not_eq_true', Bool.not_eq_false', Bool.and_eq_true, Bool.or_eq_true] at h20
      refine T.skip ?_
      refine T.blkN ?_
      refine T.thenN ?_
      refine T.region ?_
      refine L.addN rfl rfl rfl (by omega) ?_
      refine L.move rfl rfl ?_
      refine L.nil ?_
      refine T.thenN ?_
      refine T.ownEq _ ((rhasF o hv (ns.take (i + 1))).map e4) qP (by rw [rhasF, fold_snoc hn0, ← rhasF, ← hcs, rhas1, if_neg h20]) ?_
      exact T.back ⟨i + 1, (by omega), rfl, rfl, rfl, rfl⟩ qI (.cons (t := 14) rfl <| SubK.nil _) (.cons (t := 2) rfl <| .cons (t := 4) rfl <| .cons (t := 5) rfl <| .cons (t := 12) rfl <| .cons (t := 13) rfl <| SubK.nil _) qD qD qF
  · try simp only [decide_eq_true_eq, decide_eq_false_iff_not, Bool.not_eq_true', Bool.not_eq_false', Bool.and_eq_true, Bool.or_eq_true] at h15
    obtain rfl : len = i := by omega
    rw [List.take_of_length_le (by omega)]
    refine T.exit ?_
    refine T.thenX ?_
    refine T.thenX ?_
    refine T.blkX ?_
    refine T.thenN ?_
    refine T.seq ?_
    refine T.region ?_
    refine L.move rfl rfl ?_
    first | refine L.field0 rfl fo46_4 rfl ?_ | refine L.field rfl fo46_4 rfl ?_
    refine L.store sc44 rfl rfl rfl qU qE ?_
    refine L.nil ?_
    refine T.thenN ?_
    refine T.seq ?_
    refine T.region ?_
    refine L.loadA rfl ag46 rfl qN ?_
    refine L.storeA ag46 rfl rfl qL qO qU qW ?_
    refine L.nil ?_
    refine T.thenN ?_
    refine T.ret ?_
    refine T.ownRsl (rows := (rhasF o hv ns).map e4) qP ?_
    exact T.retA rfl ag46 rfl qN ⟨some ⟨ob, oo, none⟩, c11, rfl, rfl, rfl⟩ qD qF
set_option maxHeartbeats 400000 in
theorem rsorted_spec {g : List UInt8} {o : Int} {p : XP} {st : List Int} (hg : g.length = 32) : Spec Try.prog 44 [.agg (xV g o p).toArray] [rsl 1 p.1.1 64 p.1.2 (st.map e3)] [] (fun v D' M' => ∃ (a' : Option Addr) (c' : Nat), v = .slice a' (srtG g (liveR st 64)).length c' ∧ D' = [] ∧ M' = [own 1 3 a' (srtG g (liveR st 64)).length c' (((srtG g (liveR st 64))).map e3)]) := by
  refine Spec.intro (n := 32) Try.func44 rfl rfl (by decide) (Nat.le_of_ble_eq_true rfl) rfl (fun _ => qA) (fun _ => qA) ?_
  intro σ D M
  refine T.rslLen2 (rows := st.map e3) qM (fun hst hstc => ?_)
  rw [List.length_map] at hst
  
  refine T.seq ?_
  refine T.region ?_
  refine L.box rfl rfl rfl (fun b1 => ?_)
  refine L.assign rfl rfl ?_
  refine L.nil ?_
  refine T.freeze (A := cl b1 46 (xV g o p)) qP ?_
  refine T.thenN ?_
  refine T.seq ?_
  refine T.region ?_
  refine L.buildSlice rfl bs22 (by decide) (BP.doneE (out := []) rfl) (fun b5 => ?_)
  refine L.toOwn (len := 0) qP (rows := []) (sz := 1) (by rfl) rfl (by simp) ?_
  refine L.assign rfl rfl ?_
  refine L.nil ?_
  refine T.thenN ?_
  refine T.seq ?_
  refine T.seq ?_
  refine T.region ?_
  refine L.assign rfl rfl ?_
  refine L.nil ?_
  refine T.thenN ?_
  refine T.block ?_
  refine T.ownEq _ ((liveR st 0).map e3) qP (by simp [liveR]) ?_
  refine T.loop (fun K' D' M' μ => ∃ (i : Nat) (a3 : Option Addr) (n3 c3 : Nat), (i ≤ 64 ∧ (liveR st i).length = n3) ∧ K' = [(4, .int .i64 i), (3, .slice a3 n3 c3)] ∧ D' = [] ∧ M' = [own 1 3 a3 n3 c3 ((liveR st i).map e3)] ∧ μ = 64 - i) (.cons (t := 1) rfl <| SubK.nil _) (⟨0, _, 0, _, ⟨by omega, rfl⟩, rfl, rfl, rfl, rfl⟩) (.cons (t := 4) rfl <| .cons (t := 3) rfl <| SubK.nil _) qD qS ?_
  rintro K1 D1 M1 m1 ⟨i, a3, n3, c3, ⟨hi, hn3⟩, rfl, rfl, rfl, rfl⟩
  refine T.norm3 qA qA qA ?_
  have hl3 := @liveR_len st i
  refine T.seq ?_
  refine T.seq ?_
  refine T.region ?_
  refine L.move rfl rfl ?_
  refine L.ltI rfl rfl rfl ?_
  refine L.nil ?_
  refine T.thenN ?_
  refine T.cond rfl (fun h7 => ?_) (fun h7 => ?_)
  · try simp only [decide_eq_true_eq, decide_eq_false_iff_not, Bool.not_eq_true', Bool.not_eq_false', Bool.and_eq_true, Bool.or_eq_true] at h7
    refine T.skip ?_
    refine T.thenN ?_
    refine T.seq ?_
    refine T.block ?_
    refine T.seq ?_
    refine T.cutC (fun K' D' M' => ∃ (w : Bool), (w = true ↔ (0 ≤ gd st i ∧ gd st i < 3)) ∧ K' = [(23, .bool w)] ∧ D' = [] ∧ M' = []) (M0 := []) (.cons (t := 1) rfl <| .cons (t := 3) rfl <| .cons (t := 4) rfl <| SubK.nil _) qS ?_ ?_
    · skip
      rcases Decidable.em (0 ≤ gd st i) with hs | hs
      · skip
        have hgi : st[i]? = some (gd st i) := gd_get (by omega)
        refine T.region ?_
        first | refine L.field0 rfl fo46_2 rfl ?_ | refine L.field rfl fo46_2 rfl ?_
        refine L.load rfl sc22 rfl qC ?_
        refine L.move rfl rfl ?_
        refine L.idx (i := i) rfl Try.underlying22 sz3 rfl rfl qM (by first | rfl | omega | (simp; done)) qG (fun b13 o13 => ?_)
        refine L.load rfl sc3 rfl qC ?_
        refine L.geI rfl rfl rfl ?_
        refine L.move rfl rfl ?_
        refine L.known (t := 16) rfl (show _ = Value.bool true from congrArg Value.bool (decide_eq_true hs)) ?_
        refine L.guardT (dj := 16) rfl rfl rfl ?_
        first | refine L.field0 rfl fo46_2 rfl ?_ | refine L.field rfl fo46_2 rfl ?_
        refine L.guardT (dj := 16) rfl rfl rfl ?_
        refine L.load rfl sc22 rfl qC ?_
        refine L.guardT (dj := 16) rfl rfl rfl ?_
        refine L.move rfl rfl ?_
        refine L.guardT (dj := 16) rfl rfl rfl ?_
        refine L.idx (i := i) rfl Try.underlying22 sz3 rfl rfl qM (by first | rfl | omega | (simp; done)) qG (fun b20 o20 => ?_)
        refine L.guardT (dj := 16) rfl rfl rfl ?_
        refine L.load rfl sc3 rfl qC ?_
        refine L.guardT (dj := 16) rfl rfl rfl ?_
        refine L.ltI rfl rfl rfl ?_
        refine L.pickT rfl rfl rfl ?_
        refine L.nil ?_
        refine T.thenN ?_
        exact T.toJoin ⟨_, (by rw [decide_eq_true_eq]; exact ⟨fun h => ⟨hs, h⟩, fun h => h.2⟩), rfl, rfl, rfl⟩ (.cons (t := 23) rfl <| SubK.nil _) (.cons (t := 1) rfl <| .cons (t := 3) rfl <| .cons (t := 4) rfl <| SubK.nil _) qD qD qF
      · skip
        have hgi : st[i]? = some (gd st i) := gd_get (by omega)
        refine T.region ?_
        first | refine L.field0 rfl fo46_2 rfl ?_ | refine L.field rfl fo46_2 rfl ?_
        refine L.load rfl sc22 rfl qC ?_
        refine L.move rfl rfl ?_
        refine L.idx (i := i) rfl Try.underlying22 sz3 rfl rfl qM (by first | rfl | omega | (simp; done)) qG (fun b13 o13 => ?_)
        refine L.load rfl sc3 rfl qC ?_
        refine L.geI rfl rfl rfl ?_
        refine L.move rfl rfl ?_
        refine L.known (t := 16) rfl (show _ = Value.bool false from congrArg Value.bool (decide_eq_false hs)) ?_
        refine L.guardF (dj := 16) (c := false) rfl rfl rfl rfl rfl (by decide) ?_
        refine L.guardF (dj := 16) (c := false) rfl rfl rfl rfl rfl (by decide) ?_
        refine L.guardF (dj := 16) (c := false) rfl rfl rfl rfl rfl (by decide) ?_
        refine L.guardF (dj := 16) (c := false) rfl rfl rfl rfl rfl (by decide) ?_
        refine L.guardF (dj := 16) (c := false) rfl rfl rfl rfl rfl (by decide) ?_
        refine L.guardF (dj := 16) (c := false) rfl rfl rfl rfl rfl (by decide) ?_
        refine L.pickF rfl rfl rfl ?_
        refine L.nil ?_
        refine T.thenN ?_
        exact T.toJoin ⟨_, ⟨(fun h => by cases h), (fun h => absurd h.1 hs)⟩, rfl, rfl, rfl⟩ (.cons (t := 23) rfl <| SubK.nil _) (.cons (t := 1) rfl <| .cons (t := 3) rfl <| .cons (t := 4) rfl <| SubK.nil _) qD qD qF
    rintro _ _ _ ⟨w, hw, rfl, rfl, rfl⟩
    refine T.norm3 qA qA qA ?_
    refine T.thenN ?_
    refine T.cond rfl (fun h23 => ?_) (fun h23 => ?_)
    · try simp only [decide_eq_true_eq, decide_eq_false_iff_not, Bool.not_eq_true', Bool.not_eq_false', Bool.and_eq_true, Bool.or_eq_true] at h23
      refine T.region ?_
      refine L.move rfl rfl ?_
      refine L.move rfl rfl ?_
      refine L.buildSlice rfl bs22 (by decide) (BP.one rfl rfl rfl <| BP.doneE (out := []) rfl) (fun b26 => ?_)
      refine L.append1 rfl Try.underlying22 el3 rfl rfl qP qM rfl qO1 qI qI (fun a27 c27 => ?_)
      refine L.assign rfl rfl ?_
      refine L.nil ?_
      refine T.blkN ?_
      refine T.thenN ?_
      refine T.region ?_
      refine L.move rfl rfl ?_
      refine L.addN rfl rfl rfl (by omega) ?_
      refine L.assign rfl rfl ?_
      refine L.nil ?_
      refine T.thenN ?_
      refine T.ownEq _ ((liveR st (i + 1)).map e3) qP (by rw [liveR_s, if_pos (hw.1 h23), List.map_append]; rfl) ?_
      exact T.back ⟨i + 1, _, n3 + 1, _, ⟨by omega, by rw [liveR_s, if_pos (hw.1 h23), List.length_append, hn3]; rfl⟩, rfl, rfl, rfl, rfl⟩ qI (.cons (t := 4) rfl <| .cons (t := 3) rfl <| SubK.nil _) (.cons (t := 1) rfl <| SubK.nil _) qD qD qF
    · try simp only [decide_eq_true_eq, decide_eq_false_iff_not, Bool.not_eq_true', Bool.not_eq_false', Bool.and_eq_true, Bool.or_eq_true] at h23
      refine T.skip ?_
      refine T.blkN ?_
      refine T.thenN ?_
      refine T.region ?_
      refine L.move rfl rfl ?_
      refine L.addN rfl rfl rfl (by omega) ?_
      refine L.assign rfl rfl ?_
      refine L.nil ?_
      refine T.thenN ?_
      refine T.ownEq _ ((liveR st (i + 1)).map e3) qP (by rw [liveR_s, if_neg (fun e => by rw [hw.2 e] at h23; cases h23), List.append_nil]) ?_
      exact T.back ⟨i + 1, _, n3, _, ⟨by omega, by rw [liveR_s, if_neg (fun e => by rw [hw.2 e] at h23; cases h23), List.append_nil]; exact hn3⟩, rfl, rfl, rfl, rfl⟩ qI (.cons (t := 4) rfl <| .cons (t := 3) rfl <| SubK.nil _) (.cons (t := 1) rfl <| SubK.nil _) qD qD qF
  · try simp only [decide_eq_true_eq, decide_eq_false_iff_not, Bool.not_eq_true', Bool.not_eq_false', Bool.and_eq_true, Bool.or_eq_true] at h7
    obtain rfl : i = 64 := by omega
    refine T.exit ?_
    refine T.thenX ?_
    refine T.thenX ?_
    refine T.blkX ?_
    refine T.thenN ?_
    refine T.seq ?_
    have hll := @liveR_len st 64
    refine T.ownRsl (rows := (liveR st 64).map e3) qP ?_
    refine T.region ?_
    first | refine L.field0 rfl fo46_0 rfl ?_ | refine L.field rfl fo46_0 rfl ?_
    refine L.load rfl sc9 rfl qC ?_
    refine L.move rfl rfl ?_
    refine L.call rfl (evs.cons rfl <| evs.cons rfl <| evs.nil) qD qS (rsort_spec (xs := liveR st 64) hg (by omega)) ?_
    rintro _ _ _ ⟨ra, rc, rfl, rfl, rfl⟩
    refine L.norm qA qA ?_
    refine L.assign rfl rfl ?_
    refine L.nil ?_
    refine T.thenN ?_
    refine T.ret ?_
    exact T.ret1 rfl rfl ⟨_, _, rfl, rfl, rfl⟩ qD qF
set_option maxHeartbeats 400000 in
theorem rnear_spec {g : List UInt8} {o : Int} {p : XP} {st : List Int} (hg : g.length = 32) : Spec Try.prog 42 [.agg (xV g o p).toArray] [rsl 1 p.1.1 64 p.1.2 (st.map e3)] [] (fun v D' M' => ∃ (a' : Option Addr) (n' c' : Nat), v = .slice a' n' c' ∧ (n' = min 6 (srtG g (liveR st 64)).length) ∧ D' = [] ∧ M' = [own 1 3 a' n' c' (((srtG g (liveR st 64)).take 6).map e3)]) := by
  refine Spec.intro (n := 11) Try.func42 rfl rfl (by decide) (Nat.le_of_ble_eq_true rfl) rfl (fun _ => qA) (fun _ => qA) ?_
  intro σ D M
  refine T.seq ?_
  refine T.region ?_
  refine L.box rfl rfl rfl (fun b1 => ?_)
  refine L.assign rfl rfl ?_
  refine L.nil ?_
  refine T.freeze (A := cl b1 46 (xV g o p)) qP ?_
  refine T.thenN ?_
  refine T.seq ?_
  refine T.region ?_
  refine L.loadA rfl ag46 rfl qN ?_
  refine L.call rfl (evs.cons rfl <| evs.nil) qD qS (rsorted_spec (p := p) (st := st) hg) ?_
  rintro _ _ _ ⟨na, nc, rfl, rfl, rfl⟩
  refine L.norm qA qA ?_
  refine L.assign rfl rfl ?_
  refine L.nil ?_
  refine T.thenN ?_
  refine T.seq ?_
  refine T.ownLen (rows := (srtG g (liveR st 64)).map e3) qM (fun _ hcap => ?_)
  have hsl : (srtG g (liveR st 64)).length ≤ 64 := by rw [srtG_perm.length_eq]; exact liveR_len
  refine T.region ?_
  refine L.move rfl rfl ?_
  refine L.move rfl rfl ?_
  refine L.lenSl rfl Try.underlying22 rfl ?_
  refine L.minI rfl rfl rfl ?_
  rw [show min (6 : Int) ((srtG g (liveR st 64)).length : Int) = ((min 6 (srtG g (liveR st 64)).length : Nat) : Int) by omega]
  refine L.sliceTo rfl Try.underlying22 sz3 rfl (Bd.at (x := min 6 (srtG g (liveR st 64)).length) rfl (by first | rfl | omega | (simp; done))) qI ?_
  refine L.assign rfl rfl ?_
  refine L.nil ?_
  refine T.ownTo (h := min 6 (srtG g (liveR st 64)).length) qP (by omega) ?_
  refine T.ownEq _ (((srtG g (liveR st 64)).take 6).map e3) qP (by rw [← List.map_take, ← tk6 rfl]) ?_
  refine T.thenN ?_
  refine T.ret ?_
  exact T.ret1 rfl rfl ⟨_, _, _, rfl, rfl, rfl, rfl⟩ qD qF
set_option maxHeartbeats 400000 in
theorem rover_spec {g : List UInt8} {o : Int} {p : XP} {st : List Int} (hg : g.length = 32) : Spec Try.prog 26 [.agg (xV g o p).toArray] [rsl 1 p.1.1 64 p.1.2 (st.map e3)] [] (fun v D' M' => v = .bool (((srtG g (liveR st 64)).take 6).all fun n => decide (gd st n.toNat = 2)) ∧ D' = [] ∧ M' = []) := by
  refine Spec.intro (n := 19) Try.func26 rfl rfl (by decide) (Nat.le_of_ble_eq_true rfl) rfl (fun _ => qA) (fun _ => qA) ?_
  intro σ D M
  refine T.rslLen2 (rows := st.map e3) qM (fun hst hstc => ?_)
  rw [List.length_map] at hst
  
  refine T.seq ?_
  refine T.region ?_
  refine L.box rfl rfl rfl (fun b1 => ?_)
  refine L.assign rfl rfl ?_
  refine L.nil ?_
  refine T.freeze (A := cl b1 46 (xV g o p)) qP ?_
  refine T.thenN ?_
  refine T.seq ?_
  refine T.seq ?_
  refine T.region ?_
  refine L.loadA rfl ag46 rfl qN ?_
  refine L.call rfl (evs.cons rfl <| evs.nil) qD qS (rnear_spec (p := p) (st := st) hg) ?_
  rintro _ _ _ ⟨na, nn, nc, rfl, hnn, rfl, rfl⟩
  refine L.norm qA qA ?_
  refine L.lenSl rfl Try.underlying22 rfl ?_
  refine L.move rfl rfl ?_
  refine L.nil ?_
  refine T.ownRsl (rows := ((srtG g (liveR st 64)).take 6).map e3) qP ?_
  have hll : ((srtG g (liveR st 64)).take 6).length = nn := by rw [List.length_take, hnn]
  refine T.thenN ?_
  refine T.block ?_
  refine T.loop (fun K' D' M' μ => ∃ (i : Nat), (i ≤ nn ∧ (((srtG g (liveR st 64)).take 6).take i).all (fun n => decide (gd st n.toNat = 2)) = true) ∧ K' = [(8, .int .i64 i)] ∧ D' = [] ∧ M' = [] ∧ μ = nn - i) (.cons (t := 1) rfl <| .cons (t := 6) rfl <| .cons (t := 7) rfl <| SubK.nil _) (⟨0, ⟨by omega, rfl⟩, rfl, rfl, rfl, rfl⟩) (.cons (t := 8) rfl <| SubK.nil _) qD qS ?_
  rintro K1 D1 M1 m1 ⟨i, ⟨hi, hall⟩, rfl, rfl, rfl, rfl⟩
  refine T.norm3 qA qA qA ?_
  refine T.seq ?_
  refine T.region ?_
  refine L.ltI rfl rfl rfl ?_
  refine L.nil ?_
  refine T.thenN ?_
  refine T.seq ?_
  refine T.cond rfl (fun h9 => ?_) (fun h9 => ?_)
  · try simp only [decide_eq_true_eq, decide_eq_false_iff_not, Bool.not_eq_true', Bool.not_eq_false', Bool.and_eq_true, Bool.or_eq_true] at h9
    refine T.skip ?_
    refine T.thenN ?_
    refine T.seq ?_
    refine T.block ?_
    refine T.seq ?_
    have hgn : ((srtG g (liveR st 64)).take 6)[i]? = some (gd ((srtG g (liveR st 64)).take 6) i) := gd_get (by omega)
    obtain ⟨n, hn_⟩ : ∃ x, x = gd ((srtG g (liveR st 64)).take 6) i := ⟨_, rfl⟩
    rw [← hn_] at hgn
    have hnr := range_in (f := liveB st) (i := 64) (by omega) n (srtG_perm.mem_iff.1 ((List.mem_of_mem_take (List.mem_of_getElem? hgn))))
    have hgs : st[n.toNat]? = some (gd st n.toNat) := gd_get (by omega)
    refine T.region ?_
    refine L.idx (i := i) rfl Try.underlying22 sz3 rfl rfl qM (by first | rfl | omega | (simp; done)) qG (fun b10 o10 => ?_)
    refine L.load rfl sc3 rfl qC ?_
    refine L.assign rfl rfl ?_
    refine L.nil ?_
    refine T.thenN ?_
    refine T.seq ?_
    refine T.region ?_
    first | refine L.field0 rfl fo46_2 rfl ?_ | refine L.field rfl fo46_2 rfl ?_
    refine L.load rfl sc22 rfl qC ?_
    refine L.move rfl rfl ?_
    refine L.idx (i := n.toNat) rfl Try.underlying22 sz3 rfl rfl qM (by first | rfl | omega | (simp; done)) qG (fun b15 o15 => ?_)
    refine L.load rfl sc3 rfl qC ?_
    refine L.neI rfl rfl rfl ?_
    refine L.nil ?_
    refine T.thenN ?_
    refine T.cond rfl (fun h17 => ?_) (fun h17 => ?_)
    · try simp only [decide_eq_true_eq, decide_eq_false_iff_not, Bool.not_eq_true', Bool.not_eq_false', Bool.and_eq_true, Bool.or_eq_true] at h17
      have hbad : ((srtG g (liveR st 64)).take 6).all (fun n => decide (gd st n.toNat = 2)) = false := List.all_eq_false.2 ⟨n, List.mem_of_getElem? hgn, by simpa using h17⟩
      refine T.seq ?_
      refine T.region ?_
      refine L.assign rfl rfl ?_
      refine L.nil ?_
      refine T.thenN ?_
      refine T.ret ?_
      refine T.blkR ?_
      refine T.thenR ?_
      refine T.thenR ?_
      refine T.blkR ?_
      refine T.thenR ?_
      exact T.ret1 rfl rfl ⟨congrArg Value.bool hbad.symm, rfl, rfl⟩ qD qF
    · try simp only [decide_eq_true_eq, decide_eq_false_iff_not, Bool.not_eq_true', Bool.not_eq_false', Bool.and_eq_true, Bool.or_eq_true] at h17
      refine T.skip ?_
      refine T.blkN ?_
      refine T.thenN ?_
      refine T.region ?_
      refine L.addN rfl rfl rfl (by omega) ?_
      refine L.move rfl rfl ?_
      refine L.nil ?_
      refine T.thenN ?_
      exact T.back ⟨i + 1, ⟨by omega, by rw [all_take _ hgn, hall, decide_eq_true (Decidable.not_not.1 h17)]; rfl⟩, rfl, rfl, rfl, rfl⟩ qI (.cons (t := 8) rfl <| SubK.nil _) (.cons (t := 1) rfl <| .cons (t := 6) rfl <| .cons (t := 7) rfl <| SubK.nil _) qD qD qF
  · try simp only [decide_eq_true_eq, decide_eq_false_iff_not, Bool.not_eq_true', Bool.not_eq_false', Bool.and_eq_true, Bool.or_eq_true] at h9
    obtain rfl : i = nn := by omega
    rw [List.take_of_length_le (by omega)] at hall
    refine T.exit ?_
    refine T.thenX ?_
    refine T.thenX ?_
    refine T.blkX ?_
    refine T.thenN ?_
    refine T.seq ?_
    refine T.region ?_
    refine L.assign rfl rfl ?_
    refine L.nil ?_
    refine T.thenN ?_
    refine T.ret ?_
    exact T.ret1 rfl rfl ⟨congrArg Value.bool hall.symm, rfl, rfl⟩ qD qF
set_option maxHeartbeats 400000 in
theorem rtold_spec {g : List UInt8} {o : Int} {p : XP} {st : List Int} (hg : g.length = 32) : Spec Try.prog 25 [.agg (xV g o p).toArray] [rsl 1 p.1.1 64 p.1.2 (st.map e3)] [] (fun v D' M' => ∃ (a' : Option Addr) (n' c' : Nat), v = .slice a' n' c' ∧ ((tellR st (srtG g (liveR st 64))).length = n') ∧ D' = [] ∧ M' = [own 1 3 a' n' c' ((tellR st (srtG g (liveR st 64))).map e3)]) := by
  refine Spec.intro (n := 31) Try.func25 rfl rfl (by decide) (Nat.le_of_ble_eq_true rfl) rfl (fun _ => qA) (fun _ => qA) ?_
  intro σ D M
  refine T.rslLen2 (rows := st.map e3) qM (fun hst hstc => ?_)
  rw [List.length_map] at hst
  
  refine T.seq ?_
  refine T.region ?_
  refine L.box rfl rfl rfl (fun b1 => ?_)
  refine L.assign rfl rfl ?_
  refine L.nil ?_
  refine T.freeze (A := cl b1 46 (xV g o p)) qP ?_
  refine T.thenN ?_
  refine T.seq ?_
  refine T.region ?_
  refine L.buildSlice rfl bs22 (by decide) (BP.doneE (out := []) rfl) (fun b6 => ?_)
  refine L.toOwn (len := 0) qP (rows := []) (sz := 1) (by rfl) rfl (by simp) ?_
  refine L.assign rfl rfl ?_
  refine L.nil ?_
  refine T.thenN ?_
  refine T.seq ?_
  refine T.seq ?_
  refine T.region ?_
  refine L.loadA rfl ag46 rfl qN ?_
  refine L.call rfl (evs.cons rfl <| evs.nil) qD qS (rsorted_spec (p := p) (st := st) hg) ?_
  rintro _ _ _ ⟨na, nc, rfl, rfl, rfl⟩
  refine L.norm qA qA ?_
  refine L.lenSl rfl Try.underlying22 rfl ?_
  refine L.move rfl rfl ?_
  refine L.nil ?_
  refine T.ownRsl (rows := (srtG g (liveR st 64)).map e3) qP ?_
  have hsl : (srtG g (liveR st 64)).length ≤ 64 := by rw [srtG_perm.length_eq]; exact liveR_len
  refine T.thenN ?_
  refine T.block ?_
  refine T.ownEq _ ((tellR st ((srtG g (liveR st 64)).take 0)).map e3) qP (by simp [tellR]) ?_
  refine T.loop (fun K' D' M' μ => ∃ (i : Nat) (a3 : Option Addr) (n3 c3 : Nat), (i ≤ (srtG g (liveR st 64)).length ∧ (tellR st ((srtG g (liveR st 64)).take i)).length = n3 ∧ n3 ≤ 6) ∧ K' = [(10, .int .i64 i), (3, .slice a3 n3 c3)] ∧ D' = [] ∧ M' = [own 1 3 a3 n3 c3 ((tellR st ((srtG g (liveR st 64)).take i)).map e3)] ∧ μ = (srtG g (liveR st 64)).length - i) (.cons (t := 1) rfl <| .cons (t := 8) rfl <| .cons (t := 9) rfl <| SubK.nil _) (⟨0, _, 0, _, ⟨by omega, by simp [tellR], by omega⟩, rfl, rfl, rfl, rfl⟩) (.cons (t := 10) rfl <| .cons (t := 3) rfl <| SubK.nil _) qD qS ?_
  rintro K1 D1 M1 m1 ⟨i, a3, n3, c3, ⟨hi, hn3, hn36⟩, rfl, rfl, rfl, rfl⟩
  refine T.norm3 qA qA qA ?_
  refine T.seq ?_
  refine T.region ?_
  refine L.ltI rfl rfl rfl ?_
  refine L.nil ?_
  refine T.thenN ?_
  refine T.seq ?_
  refine T.cond rfl (fun h11 => ?_) (fun h11 => ?_)
  · try simp only [decide_eq_true_eq, decide_eq_false_iff_not, Bool.not_eq_true', Bool.not_eq_false', Bool.and_eq_true, Bool.or_eq_true] at h11
    refine T.skip ?_
    refine T.thenN ?_
    refine T.seq ?_
    refine T.block ?_
    refine T.seq ?_
    have hgn : ((srtG g (liveR st 64)))[i]? = some (gd ((srtG g (liveR st 64))) i) := gd_get (by omega)
    obtain ⟨n, hn_⟩ : ∃ x, x = gd ((srtG g (liveR st 64))) i := ⟨_, rfl⟩
    rw [← hn_] at hgn
    have hnr := range_in (f := liveB st) (i := 64) (by omega) n (srtG_perm.mem_iff.1 ((List.mem_of_getElem? hgn)))
    have hgs : st[n.toNat]? = some (gd st n.toNat) := gd_get (by omega)
    refine T.region ?_
    refine L.idx (i := i) rfl Try.underlying22 sz3 rfl rfl qM (by first | rfl | omega | (simp; done)) qG (fun b12 o12 => ?_)
    refine L.load rfl sc3 rfl qC ?_
    refine L.assign rfl rfl ?_
    refine L.nil ?_
    refine T.thenN ?_
    refine T.seq ?_
    refine T.cutC (fun K' D' M' => ∃ (w : Bool), (w = true ↔ (gd st n.toNat = 2 ∧ (tellR st ((srtG g (liveR st 64)).take i)).length < 6)) ∧ K' = [(24, .bool w)] ∧ D' = [] ∧ M' = []) (M0 := []) (.cons (t := 1) rfl <| .cons (t := 3) rfl <| .cons (t := 5) rfl <| .cons (t := 8) rfl <| .cons (t := 9) rfl <| .cons (t := 10) rfl <| SubK.nil _) qS ?_ ?_
    · skip
      rcases Decidable.em (gd st n.toNat = 2) with hs | hs
      · skip
        refine T.region ?_
        first | refine L.field0 rfl fo46_2 rfl ?_ | refine L.field rfl fo46_2 rfl ?_
        refine L.load rfl sc22 rfl qC ?_
        refine L.move rfl rfl ?_
        refine L.idx (i := n.toNat) rfl Try.underlying22 sz3 rfl rfl qM (by first | rfl | omega | (simp; done)) qG (fun b17 o17 => ?_)
        refine L.load rfl sc3 rfl qC ?_
        refine L.eqI rfl rfl rfl ?_
        refine L.move rfl rfl ?_
        refine L.known (t := 20) rfl (show _ = Value.bool true from congrArg Value.bool (decide_eq_true hs)) ?_
        refine L.guardT (dj := 20) rfl rfl rfl ?_
        refine L.move rfl rfl ?_
        refine L.guardT (dj := 20) rfl rfl rfl ?_
        refine L.lenSl rfl Try.underlying22 rfl ?_
        refine L.guardT (dj := 20) rfl rfl rfl ?_
        refine L.ltI rfl rfl rfl ?_
        refine L.pickT rfl rfl rfl ?_
        refine L.nil ?_
        refine T.thenN ?_
        exact T.toJoin ⟨_, (by rw [decide_eq_true_eq, hn3]; exact ⟨fun h => ⟨hs, by omega⟩, fun h => by omega⟩), rfl, rfl, rfl⟩ (.cons (t := 24) rfl <| SubK.nil _) (.cons (t := 1) rfl <| .cons (t := 3) rfl <| .cons (t := 5) rfl <| .cons (t := 8) rfl <| .cons (t := 9) rfl <| .cons (t := 10) rfl <| SubK.nil _) qD qD qF
      · skip
        refine T.region ?_
        first | refine L.field0 rfl fo46_2 rfl ?_ | refine L.field rfl fo46_2 rfl ?_
        refine L.load rfl sc22 rfl qC ?_
        refine L.move rfl rfl ?_
        refine L.idx (i := n.toNat) rfl Try.underlying22 sz3 rfl rfl qM (by first | rfl | omega | (simp; done)) qG (fun b17 o17 => ?_)
        refine L.load rfl sc3 rfl qC ?_
        refine L.eqI rfl rfl rfl ?_
        refine L.move rfl rfl ?_
        refine L.known (t := 20) rfl (show _ = Value.bool false from congrArg Value.bool (decide_eq_false hs)) ?_
        refine L.guardF (dj := 20) (c := false) rfl rfl rfl rfl rfl (by decide) ?_
        refine L.guardF (dj := 20) (c := false) rfl rfl rfl rfl rfl (by decide) ?_
        refine L.guardF (dj := 20) (c := false) rfl rfl rfl rfl rfl (by decide) ?_
        refine L.pickF rfl rfl rfl ?_
        refine L.nil ?_
        refine T.thenN ?_
        exact T.toJoin ⟨_, ⟨(fun h => by cases h), (fun h => absurd h.1 hs)⟩, rfl, rfl, rfl⟩ (.cons (t := 24) rfl <| SubK.nil _) (.cons (t := 1) rfl <| .cons (t := 3) rfl <| .cons (t := 5) rfl <| .cons (t := 8) rfl <| .cons (t := 9) rfl <| .cons (t := 10) rfl <| SubK.nil _) qD qD qF
    rintro _ _ _ ⟨w, hw, rfl, rfl, rfl⟩
    refine T.norm3 qA qA qA ?_
    refine T.thenN ?_
    refine T.cond rfl (fun h24 => ?_) (fun h24 => ?_)
    · try simp only [decide_eq_true_eq, decide_eq_false_iff_not, Bool.not_eq_true', Bool.not_eq_false', Bool.and_eq_true, Bool.or_eq_true] at h24
      refine T.region ?_
      refine L.move rfl rfl ?_
      refine L.move rfl rfl ?_
      refine L.buildSlice rfl bs22 (by decide) (BP.one rfl rfl rfl <| BP.doneE (out := []) rfl) (fun b27 => ?_)
      refine L.append1 rfl Try.underlying22 el3 rfl rfl qP qM rfl qO1 qI qI (fun a28 c28 => ?_)
      refine L.assign rfl rfl ?_
      refine L.nil ?_
      refine T.blkN ?_
      refine T.thenN ?_
      refine T.region ?_
      refine L.addN rfl rfl rfl (by omega) ?_
      refine L.move rfl rfl ?_
      refine L.nil ?_
      refine T.thenN ?_
      refine T.ownEq _ ((tellR st ((srtG g (liveR st 64)).take (i + 1))).map e3) qP (by rw [tellR_take hgn, if_pos (hw.1 h24), List.map_append]; rfl) ?_
      exact T.back ⟨i + 1, _, n3 + 1, _, ⟨by omega, by rw [tellR_take hgn, if_pos (hw.1 h24), List.length_append, hn3]; rfl, by have := (hw.1 h24).2; omega⟩, rfl, rfl, rfl, rfl⟩ qI (.cons (t := 10) rfl <| .cons (t := 3) rfl <| SubK.nil _) (.cons (t := 1) rfl <| .cons (t := 8) rfl <| .cons (t := 9) rfl <| SubK.nil _) qD qD qF
    · try simp only [decide_eq_true_eq, decide_eq_false_iff_not, Bool.not_eq_true', Bool.not_eq_false', Bool.and_eq_true, Bool.or_eq_true] at h24
      refine T.skip ?_
      refine T.blkN ?_
      refine T.thenN ?_
      refine T.region ?_
      refine L.addN rfl rfl rfl (by omega) ?_
      refine L.move rfl rfl ?_
      refine L.nil ?_
      refine T.thenN ?_
      refine T.ownEq _ ((tellR st ((srtG g (liveR st 64)).take (i + 1))).map e3) qP (by rw [tellR_take hgn, if_neg (fun e => by rw [hw.2 e] at h24; cases h24)]) ?_
      exact T.back ⟨i + 1, _, n3, _, ⟨by omega, by rw [tellR_take hgn, if_neg (fun e => by rw [hw.2 e] at h24; cases h24)]; exact hn3, hn36⟩, rfl, rfl, rfl, rfl⟩ qI (.cons (t := 10) rfl <| .cons (t := 3) rfl <| SubK.nil _) (.cons (t := 1) rfl <| .cons (t := 8) rfl <| .cons (t := 9) rfl <| SubK.nil _) qD qD qF
  · try simp only [decide_eq_true_eq, decide_eq_false_iff_not, Bool.not_eq_true', Bool.not_eq_false', Bool.and_eq_true, Bool.or_eq_true] at h11
    obtain hie : i = (srtG g (liveR st 64)).length := by omega
    rw [List.take_of_length_le (by omega)] at hn3 ⊢
    refine T.exit ?_
    refine T.thenX ?_
    refine T.thenX ?_
    refine T.blkX ?_
    refine T.thenN ?_
    refine T.seq ?_
    refine T.region ?_
    refine L.move rfl rfl ?_
    refine L.assign rfl rfl ?_
    refine L.nil ?_
    refine T.thenN ?_
    refine T.ret ?_
    exact T.ret1 rfl rfl ⟨_, _, _, rfl, hn3, rfl, rfl⟩ qD qF
set_option maxHeartbeats 400000 in
theorem rhold_spec {g : List UInt8} {o : Int} {p : XP} {hv : List Bool}  : Spec Try.prog 24 [.agg (xV g o p).toArray] [rsl 1 p.2.2.1 64 p.2.2.2 (hv.map e4)] [] (fun v D' M' => ∃ (a' : Option Addr) (n' c' : Nat), v = .slice a' n' c' ∧ ((haveR hv 64).length = n') ∧ D' = [] ∧ M' = [own 1 3 a' n' c' ((haveR hv 64).map e3)]) := by
  refine Spec.intro (n := 20) Try.func24 rfl rfl (by decide) (Nat.le_of_ble_eq_true rfl) rfl (fun _ => qA) (fun _ => qA) ?_
  intro σ D M
  refine T.rslLen2 (rows := hv.map e4) qM (fun hhv hhvc => ?_)
  rw [List.length_map] at hhv
  
  refine T.seq ?_
  refine T.region ?_
  refine L.box rfl rfl rfl (fun b1 => ?_)
  refine L.assign rfl rfl ?_
  refine L.nil ?_
  refine T.freeze (A := cl b1 46 (xV g o p)) qP ?_
  refine T.thenN ?_
  refine T.seq ?_
  refine T.region ?_
  refine L.buildSlice rfl bs22 (by decide) (BP.doneE (out := []) rfl) (fun b5 => ?_)
  refine L.toOwn (len := 0) qP (rows := []) (sz := 1) (by rfl) rfl (by simp) ?_
  refine L.assign rfl rfl ?_
  refine L.nil ?_
  refine T.thenN ?_
  refine T.seq ?_
  refine T.seq ?_
  refine T.region ?_
  refine L.assign rfl rfl ?_
  refine L.nil ?_
  refine T.thenN ?_
  refine T.block ?_
  refine T.ownEq _ ((haveR hv 0).map e3) qP (by simp [haveR]) ?_
  refine T.loop (fun K' D' M' μ => ∃ (i : Nat) (a3 : Option Addr) (n3 c3 : Nat), (i ≤ 64 ∧ (haveR hv i).length = n3) ∧ K' = [(4, .int .i64 i), (3, .slice a3 n3 c3)] ∧ D' = [] ∧ M' = [own 1 3 a3 n3 c3 ((haveR hv i).map e3)] ∧ μ = 64 - i) (.cons (t := 1) rfl <| SubK.nil _) (⟨0, _, 0, _, ⟨by omega, rfl⟩, rfl, rfl, rfl, rfl⟩) (.cons (t := 4) rfl <| .cons (t := 3) rfl <| SubK.nil _) qD qS ?_
  rintro K1 D1 M1 m1 ⟨i, a3, n3, c3, ⟨hi, hn3⟩, rfl, rfl, rfl, rfl⟩
  refine T.norm3 qA qA qA ?_
  have hl3 := @haveR_len hv i
  refine T.seq ?_
  refine T.seq ?_
  refine T.region ?_
  refine L.move rfl rfl ?_
  refine L.ltI rfl rfl rfl ?_
  refine L.nil ?_
  refine T.thenN ?_
  refine T.cond rfl (fun h7 => ?_) (fun h7 => ?_)
  · try simp only [decide_eq_true_eq, decide_eq_false_iff_not, Bool.not_eq_true', Bool.not_eq_false', Bool.and_eq_true, Bool.or_eq_true] at h7
    refine T.skip ?_
    refine T.thenN ?_
    refine T.seq ?_
    refine T.block ?_
    refine T.seq ?_
    have hgi : hv[i]? = some (gd hv i) := gd_get (by omega)
    refine T.region ?_
    first | refine L.field0 rfl fo46_4 rfl ?_ | refine L.field rfl fo46_4 rfl ?_
    refine L.load rfl sc44 rfl qC ?_
    refine L.move rfl rfl ?_
    refine L.idx (i := i) rfl Try.underlying44 sz4 rfl rfl qM (by first | rfl | omega | (simp; done)) qG (fun b13 o13 => ?_)
    refine L.load rfl sc4 rfl qC ?_
    refine L.nil ?_
    refine T.thenN ?_
    refine T.cond rfl (fun h14 => ?_) (fun h14 => ?_)
    · try simp only [decide_eq_true_eq, decide_eq_false_iff_not, Bool.not_eq_true', Bool.not_eq_false', Bool.and_eq_true, Bool.or_eq_true] at h14
      refine T.region ?_
      refine L.move rfl rfl ?_
      refine L.move rfl rfl ?_
      refine L.buildSlice rfl bs22 (by decide) (BP.one rfl rfl rfl <| BP.doneE (out := []) rfl) (fun b17 => ?_)
      refine L.append1 rfl Try.underlying22 el3 rfl rfl qP qM rfl qO1 qI qI (fun a18 c18 => ?_)
      refine L.assign rfl rfl ?_
      refine L.nil ?_
      refine T.blkN ?_
      refine T.thenN ?_
      refine T.region ?_
      refine L.move rfl rfl ?_
      refine L.addN rfl rfl rfl (by omega) ?_
      refine L.assign rfl rfl ?_
      refine L.nil ?_
      refine T.thenN ?_
      refine T.ownEq _ ((haveR hv (i + 1)).map e3) qP (by rw [haveR_s, if_pos h14, List.map_append]; rfl) ?_
      exact T.back ⟨i + 1, _, n3 + 1, _, ⟨by omega, by rw [haveR_s, if_pos h14, List.length_append, hn3]; rfl⟩, rfl, rfl, rfl, rfl⟩ qI (.cons (t := 4) rfl <| .cons (t := 3) rfl <| SubK.nil _) (.cons (t := 1) rfl <| SubK.nil _) qD qD qF
    · try simp only [decide_eq_true_eq, decide_eq_false_iff_not, Bool.not_eq_true', Bool.not_eq_false', Bool.and_eq_true, Bool.or_eq_true] at h14
      refine T.skip ?_
      refine T.blkN ?_
      refine T.thenN ?_
      refine T.region ?_
      refine L.move rfl rfl ?_
      refine L.addN rfl rfl rfl (by omega) ?_
      refine L.assign rfl rfl ?_
      refine L.nil ?_
      refine T.thenN ?_
      refine T.ownEq _ ((haveR hv (i + 1)).map e3) qP (by rw [haveR_s, if_neg (by rw [h14]; decide), List.append_nil]) ?_
      exact T.back ⟨i + 1, _, n3, _, ⟨by omega, by rw [haveR_s, if_neg (by rw [h14]; decide), List.append_nil]; exact hn3⟩, rfl, rfl, rfl, rfl⟩ qI (.cons (t := 4) rfl <| .cons (t := 3) rfl <| SubK.nil _) (.cons (t := 1) rfl <| SubK.nil _) qD qD qF
  · try simp only [decide_eq_true_eq, decide_eq_false_iff_not, Bool.not_eq_true', Bool.not_eq_false', Bool.and_eq_true, Bool.or_eq_true] at h7
    obtain rfl : i = 64 := by omega
    refine T.exit ?_
    refine T.thenX ?_
    refine T.thenX ?_
    refine T.blkX ?_
    refine T.thenN ?_
    refine T.seq ?_
    refine T.region ?_
    refine L.move rfl rfl ?_
    refine L.assign rfl rfl ?_
    refine L.nil ?_
    refine T.thenN ?_
    refine T.ret ?_
    exact T.ret1 rfl rfl ⟨_, _, _, rfl, hn3, rfl, rfl⟩ qD qF
end Cv
