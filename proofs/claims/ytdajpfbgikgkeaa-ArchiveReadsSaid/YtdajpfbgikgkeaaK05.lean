/-
  The walks: Of, awake.
-/
import Derived.Test.YtdajpfbgikgkeaaG05
import Derived.Test.YtdajpfbgikgkeaaL05
import Derived.Test.YtdajpfbgikgkeaaProg
import Derived.KernelRfl
set_option linter.unusedVariables false
set_option linter.unusedSimpArgs false
set_option linter.unusedSectionVars false
set_option maxRecDepth 10000
namespace Cv
open Go Go.Proofs

set_option maxHeartbeats 400000 in
theorem of1_spec {x y : ET}  : Spec Try.prog 44 [.agg (eT x).toArray, .agg (eT y).toArray] [] [] (fun v D' M' => v = .int .i64 (cfN x y) ∧ D' = [] ∧ M' = []) := by
  refine Spec.intro (n := 10) Try.func44 rfl rfl (by decide) (Nat.le_of_ble_eq_true rfl) rfl (fun _ => qA) (fun _ => qA) ?_
  intro σ D M
  refine T.seq ?_
  refine T.region ?_
  refine L.box rfl rfl rfl (fun b2 => ?_)
  refine L.box rfl rfl rfl (fun b3 => ?_)
  refine L.assign rfl rfl ?_
  refine L.nil ?_
  refine T.thenN ?_
  refine T.seq ?_
  refine T.region ?_
  first | refine L.field0 rfl fo36_0 rfl ?_ | refine L.field rfl fo36_0 rfl ?_
  refine L.load rfl sc9 rfl qC ?_
  first | refine L.field0 rfl fo36_0 rfl ?_ | refine L.field rfl fo36_0 rfl ?_
  refine L.load rfl sc9 rfl qC ?_
  refine L.callF rfl (evs.cons rfl <| evs.cons rfl <| evs.nil) qD qS (scmp_spec (p := x.1.n) (q := y.1.n)) (by rintro u D1 M1 ⟨rfl, rfl, rfl⟩; exact ⟨rfl, _, qA, qF⟩) ?_
  refine L.assign rfl rfl ?_
  refine L.nil ?_
  refine T.thenN ?_
  refine T.ret ?_
  exact T.ret1 rfl rfl ⟨rfl, rfl, rfl⟩ qD qF
set_option maxHeartbeats 400000 in
theorem of_spec {a : Option Addr} {len cap : Nat} {xs : List ET} (hb : len ≤ 1000000) : Spec Try.prog 20 [.slice a len cap] [rsl 4 a len cap (xs.map eT), etsA xs] [] (fun v D' M' => ∃ (a' : Option Addr) (cap' : Nat) (ys : List ET), v = .agg #[.int .i64 4, S [], .slice a' len cap'] ∧ (Kp cfN xs ys) ∧ ((len < 20 → ∀ tag : ET → Nat, (∀ p q, p < q → q < xs.length → tag (gd xs p) < tag (gd xs q)) → Pw (Rt cfN tag) ys len)) ∧ (ys.length = len) ∧ D' = [rtr (ofT ys) (eRow (ofT ys) a' len cap'), rsl 4 a' len cap' (ys.map eT), etsA ys] ∧ M' = []) := by
  refine Spec.intro (n := 9) Try.func20 rfl rfl (by decide) (Nat.le_of_ble_eq_true rfl) rfl (fun _ => qA) (fun _ => qA) ?_
  intro σ D M
  refine T.seq ?_
  refine T.region ?_
  refine L.alloc rfl ze24 (fun b2 => ?_)
  refine L.nil ?_
  refine T.thenN ?_
  refine T.seq ?_
  refine T.region ?_
  refine L.move rfl rfl ?_
  refine L.call rfl (evs.cons rfl <| evs.nil) qD qS (eclone_spec hb) ?_
  rintro _ _ _ ⟨ca, cc, rfl, rfl, rfl⟩
  refine L.norm qA qA ?_
  refine L.assign rfl rfl ?_
  refine L.nil ?_
  refine T.thenN ?_
  refine T.seq ?_
  refine T.region ?_
  refine L.move rfl rfl ?_
  refine L.call rfl (evs.cons rfl <| evs.cons rfl <| evs.nil) qD qS (sstab_spec (g := 44) (caps := []) cfN_cmp (fun x y => of1_spec) hb) ?_
  rintro _ _ _ ⟨ys, rfl, hk, hs, rfl, rfl⟩
  refine L.norm qA qA ?_
  refine L.nil ?_
  refine T.ownRsl qP ?_
  refine T.rslLen2 (rows := ys.map eT) qM (fun hyl _ => ?_)
  rw [List.length_map] at hyl
  refine T.derive (φ := etsA xs) (ψ := etsA ys) qM (etsA_sub hk.sm.2) ?_
  refine T.derive (φ := etsA ys) qM etsA_kids ?_
  refine T.trMkE (x := ofT ys) (ks := ys.map (·.1)) rfl qM qM ?_
  refine T.thenN ?_
  refine T.seq ?_
  refine T.region ?_
  refine L.move rfl rfl ?_
  refine L.build rfl bu24 (BP.one rfl rfl rfl <| BP.skip <| BP.one rfl rfl rfl <| BP.doneE (out := []) rfl) ?_
  refine L.storeA ag24 rfl rfl qL qO qU qW ?_
  refine L.nil ?_
  refine T.thenN ?_
  refine T.ret ?_
  exact T.retA rfl ag24 rfl qN ⟨_, _, _, rfl, hk, hs, hyl, rfl, rfl⟩ qD qF
set_option maxHeartbeats 400000 in
theorem Chk_spec {x : Tr} (a : Option Addr) (len cap : Nat) (hc : x.count ≤ 900000) (hs : TAll Sm x) (htl : x.t.length ≤ 20000) : Spec Try.prog 17 [.agg (iRow x a len cap).toArray] [rtr x (eRow x a len cap)] [] (fun v D' M' => v = .int .i64 (chkE x) ∧ D' = [] ∧ M' = []) := by
  refine Spec.intro (n := 17) Try.func17 rfl rfl (by decide) (Nat.le_of_ble_eq_true rfl) rfl (fun _ => qA) (fun _ => qA) ?_
  intro σ D M
  refine T.seq ?_
  refine T.region ?_
  refine L.box rfl rfl rfl (fun b1 => ?_)
  refine L.assign rfl rfl ?_
  refine L.nil ?_
  refine T.thenN ?_
  refine T.seq ?_
  refine T.region ?_
  refine L.loadA rfl ag24 rfl qN ?_
  refine L.callF rfl (evs.cons rfl <| evs.cons rfl <| evs.nil) qD qS (chk_spec x a len cap 1 (by decide) (by omega) hs htl) (by rintro u D1 M1 ⟨rfl, rfl, rfl⟩; exact ⟨rfl, _, qA, qF⟩) ?_
  refine L.move rfl rfl ?_
  refine L.extract rfl rfl rfl ?_
  refine L.extract rfl rfl rfl ?_
  refine L.assign rfl rfl ?_
  refine L.assign rfl rfl ?_
  refine L.nil ?_
  refine T.thenN ?_
  refine T.seq ?_
  refine T.seq ?_
  refine T.region ?_
  refine L.move rfl rfl ?_
  refine L.eqI rfl rfl rfl ?_
  refine L.move rfl rfl ?_
  refine L.part (t := 12) rfl (fun h1 => ?_) (fun h1 => ?_)
  · try simp only [decide_eq_true_eq, decide_eq_false_iff_not, Bool.not_eq_true', Bool.not_eq_false', Bool.and_eq_true, Bool.or_eq_true] at h1
    refine L.guardT (dj := 12) rfl rfl rfl ?_
    refine L.move rfl rfl ?_
    refine L.guardT (dj := 12) rfl rfl rfl ?_
    refine L.gtI rfl rfl rfl ?_
    refine L.pickT rfl rfl rfl ?_
    refine L.nil ?_
    refine T.thenN ?_
    refine T.cond rfl (fun h15 => ?_) (fun h15 => ?_)
    · try simp only [decide_eq_true_eq, decide_eq_false_iff_not, Bool.not_eq_true', Bool.not_eq_false', Bool.and_eq_true, Bool.or_eq_true] at h15
      refine T.seq ?_
      refine T.region ?_
      refine L.assign rfl rfl ?_
      refine L.nil ?_
      refine T.thenN ?_
      refine T.ret ?_
      refine T.thenR ?_
      exact T.ret1 rfl rfl ⟨congrArg (Value.int .i64) (by unfold chkE; simp_all <;> omega), rfl, rfl⟩ qD qF
    · try simp only [decide_eq_true_eq, decide_eq_false_iff_not, Bool.not_eq_true', Bool.not_eq_false', Bool.and_eq_true, Bool.or_eq_true] at h15
      refine T.skip ?_
      refine T.thenN ?_
      refine T.seq ?_
      refine T.region ?_
      refine L.move rfl rfl ?_
      refine L.assign rfl rfl ?_
      refine L.nil ?_
      refine T.thenN ?_
      refine T.ret ?_
      exact T.ret1 rfl rfl ⟨congrArg (Value.int .i64) (by unfold chkE; simp_all <;> omega), rfl, rfl⟩ qD qF
  · try simp only [decide_eq_true_eq, decide_eq_false_iff_not, Bool.not_eq_true', Bool.not_eq_false', Bool.and_eq_true, Bool.or_eq_true] at h1
    refine L.guardF (dj := 12) (c := false) rfl rfl rfl rfl rfl (by decide) ?_
    refine L.guardF (dj := 12) (c := false) rfl rfl rfl rfl rfl (by decide) ?_
    refine L.pickF rfl rfl rfl ?_
    refine L.nil ?_
    refine T.thenN ?_
    refine T.condF rfl rfl ?_
    refine T.skip ?_
    refine T.thenN ?_
    refine T.seq ?_
    refine T.region ?_
    refine L.move rfl rfl ?_
    refine L.assign rfl rfl ?_
    refine L.nil ?_
    refine T.thenN ?_
    refine T.ret ?_
    exact T.ret1 rfl rfl ⟨congrArg (Value.int .i64) (by unfold chkE; simp_all <;> omega), rfl, rfl⟩ qD qF
set_option maxHeartbeats 400000 in
theorem awake_spec   : Spec Try.prog 16 [] [] [] (fun v D' M' => v = .bool true ∧ D' = [] ∧ M' = []) := by
  refine Spec.intro (n := 38) Try.func16 rfl rfl (by decide) (Nat.le_of_ble_eq_true rfl) rfl (fun _ => qA) (fun _ => qA) ?_
  intro σ D M
  refine T.seq ?_
  refine T.region ?_
  refine L.assign rfl rfl ?_
  refine L.nil ?_
  refine T.thenN ?_
  refine T.seq ?_
  refine T.region ?_
  refine L.build rfl bu24 (BP.one rfl rfl rfl <| BP.doneE (out := [S [], Value.slice none 0 0]) rfl) ?_
  refine L.build rfl bu36 (BP.one rfl rfl rfl <| BP.agg rfl rfl (by first | with_reducible assumption | (simp; done) | (simp only [List.length_map]; with_reducible assumption) | (simp [*]; done) | rfl) (Nat.le_of_ble_eq_true rfl) qR <| BP.doneE (out := []) rfl) ?_
  refine L.build rfl bu24 (BP.one rfl rfl rfl <| BP.doneE (out := [S [], Value.slice none 0 0]) rfl) ?_
  refine L.build rfl bu36 (BP.one rfl rfl rfl <| BP.agg rfl rfl (by first | with_reducible assumption | (simp; done) | (simp only [List.length_map]; with_reducible assumption) | (simp [*]; done) | rfl) (Nat.le_of_ble_eq_true rfl) qR <| BP.doneE (out := []) rfl) ?_
  refine L.buildSlice rfl bs22 (by decide) (BP.agg (us := eRow (.mk [98] 1 [] []) none 0 0) rfl rfl rfl (Nat.le_of_ble_eq_true rfl) AppL.refl <| BP.agg (us := eRow (.mk [97] 1 [] []) none 0 0) rfl rfl rfl (Nat.le_of_ble_eq_true rfl) AppL.refl <| BP.doneE (out := []) rfl) (fun b6 => ?_)
  refine L.toOwn (len := 2) (sz := 4) (e := 36) (rows := aw0.map eT) qP (by rfl) rfl (by simp [aw0]) ?_
  refine L.ownRsl qP ?_
  refine L.fact0 (φ := etsA aw0) (fun z q hq => by simp only [aw0, List.mem_cons, List.not_mem_nil, or_false] at hq; rcases hq with rfl | rfl <;> exact rt_leaf) ?_
  refine L.call rfl (evs.cons rfl <| evs.nil) qD qS (of_spec (xs := aw0) (by decide)) ?_
  rintro _ _ _ ⟨oa, oc, ys, rfl, hk, hs, hyl, rfl, rfl⟩
  refine L.norm qA qA ?_
  obtain rfl := aw_sort hk hs
  refine L.alloc rfl ze24 (fun b1 => ?_)
  refine L.storeA ag24 rfl rfl qL qO qU qW ?_
  refine L.nil ?_
  refine T.thenN ?_
  refine T.seq ?_
  have hr0 : (aw1.map eT)[0]? = some (eRow (.mk [97] 1 [] []) none 0 0) := rfl
  refine T.rslAddr (a := oa) qM (by simp [aw1]) (fun bo oo ha => ?_)
  subst ha
  refine T.region ?_
  first | refine L.field0 rfl fo24_2 rfl ?_ | refine L.field rfl fo24_2 rfl ?_
  refine L.load rfl sc22 rfl qC ?_
  refine L.lenSl rfl Try.underlying22 rfl ?_
  refine L.eqI rfl rfl rfl ?_
  refine L.move rfl rfl ?_
  refine L.known (t := 12) rfl (show _ = Value.bool true from congrArg Value.bool (by decide)) ?_
  refine L.guardT (dj := 12) rfl rfl rfl ?_
  first | refine L.field0 rfl fo24_2 rfl ?_ | refine L.field rfl fo24_2 rfl ?_
  refine L.guardT (dj := 12) rfl rfl rfl ?_
  refine L.load rfl sc22 rfl qC ?_
  refine L.guardT (dj := 12) rfl rfl rfl ?_
  refine L.idx (i := 0) rfl Try.underlying22 sz36 rfl rfl qM (by first | rfl | omega | (simp; done)) qG (fun b15 o15 => ?_)
  refine L.guardT (dj := 12) rfl rfl rfl ?_
  first | refine L.field0 rfl fo36_0 rfl ?_ | refine L.field rfl fo36_0 rfl ?_
  refine L.guardT (dj := 12) rfl rfl rfl ?_
  refine L.load rfl sc9 rfl qC ?_
  refine L.guardT (dj := 12) rfl rfl rfl ?_
  refine L.eqS rfl rfl rfl ?_
  refine L.pickT rfl rfl rfl ?_
  refine L.move rfl rfl ?_
  refine L.known (t := 20) rfl (show _ = Value.bool true from congrArg Value.bool (by decide)) ?_
  refine L.guardT (dj := 20) rfl rfl rfl ?_
  refine L.loadA rfl ag24 rfl qN ?_
  refine L.guardT (dj := 20) rfl rfl rfl ?_
  refine L.callF rfl (evs.cons rfl <| evs.nil) qD qS (Chk_spec (x := ofT aw1) _ _ _ (by decide +kernel) (smT aw1 (fun y hy => by simp only [aw1, List.mem_cons, List.not_mem_nil, or_false] at hy; rcases hy with rfl | rfl <;> exact ⟨⟨by decide, by decide⟩, tall_leaf⟩)) (by decide)) (by rintro u D1 M1 ⟨rfl, rfl, rfl⟩; exact ⟨rfl, _, qA, qF⟩) ?_
  refine L.guardT (dj := 20) rfl rfl rfl ?_
  refine L.eqI rfl rfl rfl ?_
  refine L.pickT rfl rfl rfl ?_
  refine L.move rfl rfl ?_
  refine L.known (t := 25) rfl (show _ = Value.bool true from congrArg Value.bool (decide_eq_true aw_chk)) ?_
  refine L.guardT (dj := 25) rfl rfl rfl ?_
  refine L.loadA rfl ag24 rfl qN ?_
  refine L.guardT (dj := 25) rfl rfl rfl ?_
  refine L.callF rfl (evs.cons rfl <| evs.nil) qD qS (count_spec (ofT aw1) (some ⟨bo, oo, none⟩) 2 oc (by rw [aw_count]; decide)) (by rintro u D1 M1 ⟨rfl, rfl, rfl⟩; exact ⟨rfl, _, qA, qF⟩) ?_
  refine L.guardT (dj := 25) rfl rfl rfl ?_
  refine L.eqI rfl rfl rfl ?_
  refine L.pickT rfl rfl rfl ?_
  refine L.move rfl rfl ?_
  refine L.known (t := 30) rfl (show _ = Value.bool true from congrArg Value.bool (decide_eq_true (by rw [aw_count]; rfl))) ?_
  refine L.guardT (dj := 30) rfl rfl rfl ?_
  refine L.loadA rfl ag24 rfl qN ?_
  refine L.guardT (dj := 30) rfl rfl rfl ?_
  refine L.build rfl bu36 (BP.one rfl rfl rfl <| BP.agg rfl rfl (by first | with_reducible assumption | (simp; done) | (simp only [List.length_map]; with_reducible assumption) | (simp [*]; done) | rfl) (Nat.le_of_ble_eq_true rfl) qR <| BP.doneE (out := []) rfl) ?_
  refine L.guardT (dj := 30) rfl rfl rfl ?_
  refine L.buildSlice rfl bs22 (by decide) (BP.agg rfl rfl (by first | with_reducible assumption | (simp; done) | (simp only [List.length_map]; with_reducible assumption) | (simp [*]; done) | rfl) (Nat.le_of_ble_eq_true rfl) qR <| BP.doneE (out := []) rfl) (fun b33 => ?_)
  refine L.toOwn (len := 1) (sz := 4) (e := 36) (rows := [((ofT aw1).named [46, 46], (some ⟨bo, oo, none⟩), 2, oc)].map eT) qP (by rfl) rfl (by simp) ?_
  refine L.ownRsl qP ?_
  refine L.trName (x := ofT aw1) (y := (ofT aw1).named [46, 46]) qM rfl ?_
  refine L.derive (φ := rtr ((ofT aw1).named [46, 46]) (eRow ((ofT aw1).named [46, 46]) (some ⟨bo, oo, none⟩) 2 oc)) (ψ := etsA [((ofT aw1).named [46, 46], (some ⟨bo, oo, none⟩), 2, oc)]) qM (fun z H q hq => by simp only [List.mem_singleton] at hq; subst hq; exact H) ?_
  refine L.guardT (dj := 30) rfl rfl rfl ?_
  refine L.call rfl (evs.cons rfl <| evs.nil) qD qS (of_spec (xs := [((ofT aw1).named [46, 46], (some ⟨bo, oo, none⟩), 2, oc)]) (by decide)) ?_
  rintro _ _ _ ⟨oa2, oc2, ys, rfl, hk2, hs2, hyl2, rfl, rfl⟩
  refine L.norm qA qA ?_
  obtain rfl := of_one hk2
  refine L.guardT (dj := 30) rfl rfl rfl ?_
  refine L.callF rfl (evs.cons rfl <| evs.nil) qD qS (Chk_spec (x := ofT [((ofT aw1).named [46, 46], (some ⟨bo, oo, none⟩), 2, oc)]) _ _ _ (by rw [show (ofT [((ofT aw1).named [46, 46], (some ⟨bo, oo, none⟩), 2, oc)]).count = 4 from (show (Tr.mk [] 4 [] [(ofT aw1).named [46, 46]]).count = 4 from by decide +kernel)]; decide) (smT _ (fun y hy => by simp only [List.mem_singleton] at hy; subst hy; exact ⟨⟨(show ([46, 46] : List UInt8).length ≤ 20000 from by decide), (show ([] : List UInt8).length ≤ 20000 from by decide)⟩, .of (fun y hy => (smT aw1 (fun y hy => by simp only [aw1, List.mem_cons, List.not_mem_nil, or_false] at hy; rcases hy with rfl | rfl <;> exact ⟨⟨by decide, by decide⟩, tall_leaf⟩)).kid hy)⟩)) (show ([] : List UInt8).length ≤ 20000 from by decide)) (by rintro u D1 M1 ⟨rfl, rfl, rfl⟩; exact ⟨rfl, _, qA, qF⟩) ?_
  refine L.guardT (dj := 30) rfl rfl rfl ?_
  refine L.eqI rfl rfl rfl ?_
  refine L.pickT rfl rfl rfl ?_
  refine L.assign rfl rfl ?_
  refine L.nil ?_
  refine T.thenN ?_
  refine T.ret ?_
  exact T.ret1 rfl rfl ⟨congrArg Value.bool (decide_eq_true (aw_chk2 _ _ _)), rfl, rfl⟩ qD qF
end Cv
