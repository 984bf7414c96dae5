/-
  The walks: laws of chapter 05.
-/
import Derived.Test.YtdajpfbgikgkeaaP05
import Derived.Test.YtdajpfbgikgkeaaN05
import Derived.Test.YtdajpfbgikgkeaaProg
import Derived.KernelRfl
set_option linter.unusedVariables false
set_option linter.unusedSimpArgs false
set_option linter.unusedSectionVars false
set_option maxRecDepth 10000
namespace Cv
open Go Go.Proofs

set_option maxHeartbeats 400000 in
theorem of_spec2 {a : Option Addr} {len cap : Nat} {xs : List ET} (hb : len ≤ 1000000) : Spec Try.prog 20 [.slice a len cap] [etsA xs] [own 4 36 a len cap (xs.map eT)] (fun v D' M' => ∃ (a' : Option Addr) (cap' : Nat) (ys : List ET), v = .agg #[.int .i64 4, S [], .slice a' len cap'] ∧ (Kp cfN xs ys) ∧ ((len < 20 → ∀ tag : ET → Nat, (∀ p q, p < q → q < xs.length → tag (gd xs p) < tag (gd xs q)) → Pw (Rt cfN tag) ys len)) ∧ (ys.length = len) ∧ D' = [rtr (ofT ys) (eRow (ofT ys) a' len cap'), rsl 4 a' len cap' (ys.map eT), etsA ys] ∧ M' = [own 4 36 a len cap (xs.map eT)]) := by
  refine Spec.intro (n := 9) Try.func20 rfl rfl (by decide) (Nat.le_of_ble_eq_true rfl) rfl (fun _ => qA) (fun _ => qA) ?_
  intro σ D M
  refine T.seq ?_
  refine T.region ?_
  refine L.alloc rfl ze24 (fun b2 => ?_)
  refine L.nil ?_
  refine T.thenN ?_
  refine T.seq ?_
  refine T.region ?_
  refine L.move rfl rfl ?_
  refine L.callB1 rfl (evs.cons rfl <| evs.nil) qS qP (fun z H => rsl_of_own H) (eclone_spec (xs := xs) hb) ?_
  rintro _ _ _ ⟨ca, cc, rfl, rfl, rfl⟩
  refine L.norm AppL.nil qA ?_
  refine L.assign rfl rfl ?_
  refine L.nil ?_
  refine T.thenN ?_
  refine T.seq ?_
  refine T.region ?_
  refine L.move rfl rfl ?_
  refine L.call rfl (evs.cons rfl <| evs.cons rfl <| evs.nil) qD qS (sstab_spec (g := 44) (caps := []) cfN_cmp (fun x y => of1_spec) hb) ?_
  rintro _ _ _ ⟨ys, rfl, hk, hs, rfl, rfl⟩
  refine L.norm qA qA ?_
  refine L.nil ?_
  refine T.ownRsl (rows := ys.map eT) qP ?_
  refine T.rslLen2 (rows := ys.map eT) qM (fun hyl _ => ?_)
  rw [List.length_map] at hyl
  refine T.derive (φ := etsA xs) (ψ := etsA ys) qM (etsA_sub hk.sm.2) ?_
  refine T.derive (φ := etsA ys) qM etsA_kids ?_
  refine T.trMkE (x := ofT ys) (ks := ys.map (·.1)) rfl qM qM ?_
  refine T.thenN ?_
  refine T.seq ?_
  refine T.region ?_
  refine L.move rfl rfl ?_
  refine L.build rfl bu24 (BP.one rfl rfl rfl <| BP.skip <| BP.one rfl rfl rfl <| BP.doneE (out := []) rfl) ?_
  refine L.storeA ag24 rfl rfl qL qO qU qW ?_
  refine L.nil ?_
  refine T.thenN ?_
  refine T.ret ?_
  exact T.retA rfl ag24 rfl qN ⟨_, _, _, rfl, hk, hs, hyl, rfl, rfl⟩ qD qF
set_option maxHeartbeats 400000 in
theorem treeOf_spec {ks : List Tr} {rows : List (List Value)} (a : Option Addr) (len cap : Nat) (hkl : ks.length = len) : Spec Try.prog 5 [.slice a len cap] [rsl 4 a len cap rows, kidsA ks rows] [] (fun v D' M' => v = .bool true ∧ D' = [] ∧ M' = []) := by
  refine Spec.intro (n := 124) Try.func5 rfl rfl (by decide) (Nat.le_of_ble_eq_true rfl) rfl (fun _ => qA) (fun _ => qA) ?_
  intro σ D M
  refine T.rslLen qM (fun hrl => ?_)
  refine T.kidRows qM (fun hrw => ?_)
  refine T.seq ?_
  refine T.region ?_
  refine L.assign rfl rfl ?_
  refine L.nil ?_
  refine T.thenN ?_
  refine T.seq ?_
  refine T.seq ?_
  refine T.region ?_
  refine L.callF rfl (evs.nil) qD qS (awake_spec) (by rintro u D1 M1 ⟨rfl, rfl, rfl⟩; exact ⟨rfl, _, qA, qF⟩) ?_
  refine L.notB rfl rfl ?_
  refine L.nil ?_
  refine T.thenN ?_
  refine T.condF rfl rfl ?_
  refine T.skip ?_
  refine T.thenN ?_
  refine T.seq ?_
  refine T.region ?_
  refine L.buildSlice rfl bs22 (by decide) (BP.doneE (out := []) rfl) (fun b14 => ?_)
  refine L.toOwn (len := 0) (sz := 4) qP (rows := ([] : List ET).map eT) (by rfl) rfl (by simp) ?_
  refine L.assign rfl rfl ?_
  refine L.nil ?_
  refine T.thenN ?_
  refine T.seq ?_
  refine T.seq ?_
  refine T.region ?_
  refine L.assign rfl rfl ?_
  refine L.nil ?_
  refine T.thenN ?_
  refine T.block ?_
  refine T.loop (fun K' D' M' μ => ∃ (i : Nat) (acc : List ET) (a1 : Option Addr) (c1 : Nat), ((i ≤ len ∧ i ≤ 8) ∧ ShL acc ∧ acc.length = i) ∧ K' = [(3, .slice a1 i c1), (4, .int .i64 i)] ∧ D' = [] ∧ M' = [own 4 36 a1 i c1 (acc.map eT)] ∧ μ = 8 - i) (.cons (t := 0) rfl <| SubK.nil _) (⟨0, [], _, _, ⟨by omega, ShL.nil, rfl⟩, rfl, rfl, rfl, rfl⟩) (.cons (t := 3) rfl <| .cons (t := 4) rfl <| SubK.nil _) qD qS ?_
  rintro K1 D1 M1 m1 ⟨i, acc, a1, c1, ⟨hi, hS, hal⟩, rfl, rfl, rfl, rfl⟩
  refine T.norm3 qA qA qA ?_
  refine T.seq ?_
  refine T.seq ?_
  refine T.cutC (fun K' D' M' => ∃ (q0 : Bool), (q0 = true ↔ (i < len ∧ i < 8)) ∧ K' = [(22, .bool q0)] ∧ D' = [] ∧ M' = []) (M0 := []) (.cons (t := 0) rfl <| .cons (t := 3) rfl <| .cons (t := 4) rfl <| SubK.nil _) qS ?_ ?_
  · skip
    refine T.region ?_
    refine L.move rfl rfl ?_
    refine L.move rfl rfl ?_
    refine L.lenSl rfl Try.underlying22 rfl ?_
    refine L.ltI rfl rfl rfl ?_
    refine L.move rfl rfl ?_
    refine L.part (t := 19) rfl (fun h1 => ?_) (fun h1 => ?_)
    · try simp only [decide_eq_true_eq, decide_eq_false_iff_not, Bool.not_eq_true', Bool.not_eq_false', Bool.and_eq_true, Bool.or_eq_true] at h1
      refine L.guardT (dj := 19) rfl rfl rfl ?_
      refine L.move rfl rfl ?_
      refine L.guardT (dj := 19) rfl rfl rfl ?_
      refine L.ltI rfl rfl rfl ?_
      refine L.pickT rfl rfl rfl ?_
      refine L.nil ?_
      refine T.thenN ?_
      exact T.toJoin ⟨_, (by simp_all <;> omega), rfl, rfl, rfl⟩ (.cons (t := 22) rfl <| SubK.nil _) (.cons (t := 0) rfl <| .cons (t := 3) rfl <| .cons (t := 4) rfl <| SubK.nil _) qD qD qF
    · try simp only [decide_eq_true_eq, decide_eq_false_iff_not, Bool.not_eq_true', Bool.not_eq_false', Bool.and_eq_true, Bool.or_eq_true] at h1
      refine L.guardF (dj := 19) (c := false) rfl rfl rfl rfl rfl (by decide) ?_
      refine L.guardF (dj := 19) (c := false) rfl rfl rfl rfl rfl (by decide) ?_
      refine L.pickF rfl rfl rfl ?_
      refine L.nil ?_
      refine T.thenN ?_
      exact T.toJoin ⟨_, (by simp_all <;> omega), rfl, rfl, rfl⟩ (.cons (t := 22) rfl <| SubK.nil _) (.cons (t := 0) rfl <| .cons (t := 3) rfl <| .cons (t := 4) rfl <| SubK.nil _) qD qD qF
  rintro _ _ _ ⟨q0, hq0, rfl, rfl, rfl⟩
  refine T.norm3 qA qA qA ?_
  refine T.thenN ?_
  refine T.cond rfl (fun h22 => ?_) (fun h22 => ?_)
  · try simp only [decide_eq_true_eq, decide_eq_false_iff_not, Bool.not_eq_true', Bool.not_eq_false', Bool.and_eq_true, Bool.or_eq_true] at h22
    have hlt := hq0.1 h22
    refine T.skip ?_
    refine T.thenN ?_
    refine T.seq ?_
    refine T.block ?_
    have hy : ks[i]? = some (gd ks i) := gd_get (by omega)
    obtain ⟨y, hyy⟩ : ∃ y, y = gd ks i := ⟨_, rfl⟩
    rw [← hyy] at hy
    obtain ⟨ka, kl, kc, hr⟩ := hrw i y hy
    refine T.region ?_
    refine L.move rfl rfl ?_
    refine L.move rfl rfl ?_
    refine L.move rfl rfl ?_
    refine L.idx (i := i) rfl Try.underlying22 sz36 rfl rfl qM (by first | rfl | omega | (simp; done)) qG (fun b28 o28 => ?_)
    first | refine L.field0 rfl fo36_0 rfl ?_ | refine L.field rfl fo36_0 rfl ?_
    refine L.load rfl sc9 rfl qC ?_
    refine L.callF rfl (evs.cons rfl <| evs.cons rfl <| evs.nil) qD qS (cut_spec (n := 10)) (by rintro u D1 M1 ⟨rfl, rfl, rfl⟩; exact ⟨rfl, _, qA, qF⟩) ?_
    refine L.move rfl rfl ?_
    refine L.addN rfl rfl rfl (by omega) ?_
    rw [show (97 : Int) + (i : Int) = ((97 + i : Nat) : Int) by omega]
    refine L.convI rfl Try.underlying3 Try.underlying21 rfl ?_
    rw [i32_wrap (by omega)]
    refine L.convRune rfl (by kernel_rfl) Try.underlying9 rfl (fun rs hrs => ?_)
    obtain rfl := enc_ascii (by omega) hrs
    refine L.build rfl bu24 (BP.one rfl rfl rfl <| BP.one rfl rfl rfl <| BP.doneE (out := [Value.slice none 0 0]) rfl) ?_
    refine L.build rfl bu36 (BP.one rfl rfl rfl <| BP.agg rfl rfl (by first | with_reducible assumption | (simp; done) | (simp only [List.length_map]; with_reducible assumption) | (simp [*]; done) | rfl) (Nat.le_of_ble_eq_true rfl) qR <| BP.doneE (out := []) rfl) ?_
    refine L.buildSlice rfl bs22 (by decide) (BP.agg rfl rfl (by first | with_reducible assumption | (simp; done) | (simp only [List.length_map]; with_reducible assumption) | (simp [*]; done) | rfl) (Nat.le_of_ble_eq_true rfl) qR <| BP.doneE (out := []) rfl) (fun b38 => ?_)
    refine L.append1 rfl Try.underlying22 el36 rfl rfl qP qM rfl qO1 qI qI (fun a39 c39 => ?_)
    refine L.assign rfl rfl ?_
    refine L.nil ?_
    refine T.blkN ?_
    refine T.thenN ?_
    refine T.region ?_
    refine L.move rfl rfl ?_
    refine L.addN rfl rfl rfl (by omega) ?_
    refine L.assign rfl rfl ?_
    refine L.nil ?_
    refine T.thenN ?_
    refine T.ownEq _ ((acc ++ [shE y.n i]).map eT) qP (by rw [List.map_append]; rfl) ?_
    exact T.back ⟨i + 1, acc ++ [shE y.n i], _, _, ⟨by omega, hS.snoc (by rw [hal]; exact Sh.mk y.n i), by simp [hal]⟩, rfl, rfl, rfl, rfl⟩ qI (.cons (t := 3) rfl <| .cons (t := 4) rfl <| SubK.nil _) (.cons (t := 0) rfl <| SubK.nil _) qD qD qF
  · try simp only [decide_eq_true_eq, decide_eq_false_iff_not, Bool.not_eq_true', Bool.not_eq_false', Bool.and_eq_true, Bool.or_eq_true] at h22
    refine T.exit ?_
    refine T.thenX ?_
    refine T.thenX ?_
    refine T.blkX ?_
    refine T.thenN ?_
    refine T.seq ?_
    refine T.fact0 (φ := etsA acc) hS.ets ?_
    refine T.region ?_
    refine L.move rfl rfl ?_
    refine L.call rfl (evs.cons rfl <| evs.nil) qD qS (of_spec2 (xs := acc) (len := i) (by omega)) ?_
    rintro _ _ _ ⟨oa, oc, ys, rfl, hk, hs, hyl, rfl, rfl⟩
    refine L.norm qA qA ?_
    refine L.alloc rfl ze24 (fun b5 => ?_)
    refine L.storeA ag24 rfl rfl qL qO qU qW ?_
    refine L.nil ?_
    refine T.freeze (A := cl b5 24 [.int .i64 4, S [], .slice oa i oc]) qP ?_
    refine T.thenN ?_
    refine T.seq ?_
    refine T.seq ?_
    refine T.region ?_
    first | refine L.field0 rfl fo24_2 rfl ?_ | refine L.field rfl fo24_2 rfl ?_
    refine L.load rfl sc22 rfl qC ?_
    refine L.lenSl rfl Try.underlying22 rfl ?_
    refine L.move rfl rfl ?_
    refine L.lenSl rfl Try.underlying22 rfl ?_
    refine L.neI rfl rfl rfl ?_
    refine L.move rfl rfl ?_
    refine L.known (t := 48) rfl (show _ = Value.bool false from congrArg Value.bool (by simp)) ?_
    refine L.guardT (dj := 48) rfl rfl rfl ?_
    first | refine L.field0 rfl fo24_0 rfl ?_ | refine L.field rfl fo24_0 rfl ?_
    refine L.guardT (dj := 48) rfl rfl rfl ?_
    refine L.load rfl sc3 rfl qC ?_
    refine L.guardT (dj := 48) rfl rfl rfl ?_
    refine L.neI rfl rfl rfl ?_
    refine L.pickF rfl rfl rfl ?_
    refine L.nil ?_
    refine T.thenN ?_
    refine T.condF rfl (by simp) ?_
    refine T.skip ?_
    refine T.thenN ?_
    refine T.seq ?_
    refine T.seq ?_
    refine T.region ?_
    refine L.assign rfl rfl ?_
    refine L.nil ?_
    refine T.thenN ?_
    refine T.block ?_
    refine T.loop (fun K' D' M' μ => ∃ (j : Nat), (1 ≤ j) ∧ K' = [(6, .int .i64 j)] ∧ D' = [] ∧ M' = [] ∧ μ = i - j) (.cons (t := 3) rfl <| .cons (t := 5) rfl <| SubK.nil _) (⟨1, (Nat.le_refl _), rfl, rfl, rfl, rfl⟩) (.cons (t := 6) rfl <| SubK.nil _) qD qS ?_
    rintro K1 D1 M1 m1 ⟨j, hj, rfl, rfl, rfl, rfl⟩
    refine T.norm3 qA qA qA ?_
    refine T.seq ?_
    refine T.seq ?_
    refine T.region ?_
    refine L.move rfl rfl ?_
    first | refine L.field0 rfl fo24_2 rfl ?_ | refine L.field rfl fo24_2 rfl ?_
    refine L.load rfl sc22 rfl qC ?_
    refine L.lenSl rfl Try.underlying22 rfl ?_
    refine L.ltI rfl rfl rfl ?_
    refine L.nil ?_
    refine T.thenN ?_
    refine T.cond rfl (fun h57 => ?_) (fun h57 => ?_)
    · try simp only [decide_eq_true_eq, decide_eq_false_iff_not, Bool.not_eq_true', Bool.not_eq_false', Bool.and_eq_true, Bool.or_eq_true] at h57
      refine T.skip ?_
      refine T.thenN ?_
      refine T.seq ?_
      refine T.block ?_
      refine T.seq ?_
      have hg1 : ys[j - 1]? = some (gd ys (j - 1)) := gd_get (by omega)
      have hg2 : ys[j]? = some (gd ys j) := gd_get (by omega)
      have hm1 : gd ys (j - 1) ∈ acc := hk.sm.2 _ (gd_mem (by omega))
      have hm2 : gd ys j ∈ acc := hk.sm.2 _ (gd_mem (by omega))
      obtain ⟨hp1, hp2⟩ := sh_pair hS hm1 hm2 (hs (by omega) tagE (sh_rise hS (by omega)) (j - 1) j (by omega) (by omega))
      refine T.rslAddr (rows := ys.map eT) qM (fun e => by have := congrArg List.length e; simp at this; subst this; simp at hyl; omega) (fun bo oo ha => ?_)
      subst ha
      refine T.cutC (fun K' D' M' => ∃ (p7 p8 : Nat), K' = [(7, .pointer (some ⟨p7, 0, none⟩)), (8, .pointer (some ⟨p8, 0, none⟩))] ∧ D' = [] ∧ M' = [cl p7 36 (eT (gd ys (j - 1))), cl p8 36 (eT (gd ys j))]) (M0 := []) (.cons (t := 3) rfl <| .cons (t := 5) rfl <| .cons (t := 6) rfl <| SubK.nil _) qS ?_ ?_
      · skip
        refine T.regionA (clsL [1, 1, 1, 1, 1, 1, 1, 1, 1, 1, 1, 2, 2, 2, 2]) (by kernel_rfl) ?_
        refine A.takeP (i := 0) rfl rfl rfl rfl (by kernel_rfl) (by kernel_rfl) (by kernel_rfl) rfl qD ?_
        first | refine L.field0 rfl fo24_2 rfl ?_ | refine L.field rfl fo24_2 rfl ?_
        refine A.took ?_
        refine A.takeP (i := 1) rfl rfl rfl rfl (by kernel_rfl) (by kernel_rfl) (by kernel_rfl) rfl qD ?_
        refine L.load rfl sc22 rfl qC ?_
        refine A.took ?_
        refine A.takeP (i := 2) rfl rfl rfl rfl (by kernel_rfl) (by kernel_rfl) (by kernel_rfl) rfl qD ?_
        refine L.move rfl rfl ?_
        refine A.took ?_
        refine A.takeP (i := 3) rfl rfl rfl rfl (by kernel_rfl) (by kernel_rfl) (by kernel_rfl) rfl qD ?_
        refine L.subN rfl rfl rfl (by omega) ?_
        refine A.took ?_
        refine A.takeP (i := 4) rfl rfl rfl rfl (by kernel_rfl) (by kernel_rfl) (by kernel_rfl) rfl qD ?_
        refine L.idxR (i := j - 1) rfl Try.underlying22 sz36 rfl rfl qM (by first | rfl | omega | (simp; done)) qI qG ?_
        refine A.took ?_
        refine A.takeP (i := 5) rfl rfl rfl rfl (by kernel_rfl) (by kernel_rfl) (by kernel_rfl) rfl qD ?_
        refine L.loadA rfl ag36 rfl qN ?_
        refine A.took ?_
        refine A.takeP (i := 6) rfl rfl rfl rfl (by kernel_rfl) (by kernel_rfl) (by kernel_rfl) rfl qD ?_
        first | refine L.field0 rfl fo24_2 rfl ?_ | refine L.field rfl fo24_2 rfl ?_
        refine A.took ?_
        refine A.takeP (i := 7) rfl rfl rfl rfl (by kernel_rfl) (by kernel_rfl) (by kernel_rfl) rfl qD ?_
        refine L.load rfl sc22 rfl qC ?_
        refine A.took ?_
        refine A.takeP (i := 8) rfl rfl rfl rfl (by kernel_rfl) (by kernel_rfl) (by kernel_rfl) rfl qD ?_
        refine L.move rfl rfl ?_
        refine A.took ?_
        refine A.takeP (i := 9) rfl rfl rfl rfl (by kernel_rfl) (by kernel_rfl) (by kernel_rfl) rfl qD ?_
        refine L.idxR (i := j) rfl Try.underlying22 sz36 rfl rfl qM (by first | rfl | omega | (simp; done)) qI qG ?_
        refine A.took ?_
        refine A.takeP (i := 10) rfl rfl rfl rfl (by kernel_rfl) (by kernel_rfl) (by kernel_rfl) rfl qD ?_
        refine L.loadA rfl ag36 rfl qN ?_
        refine A.took ?_
        refine A.branch (is := [11, 12]) (by kernel_rfl) (by decide) (Each.cons rfl ?_ <| Each.cons rfl ?_ <| Each.nil) 
        · skip
          refine L.alloc rfl ze36 (fun b7 => ?_)
          refine A.backT rfl qD ?_
          refine A.branch (is := [12]) (by kernel_rfl) (by decide) (Each.cons rfl ?_ <| Each.nil) 
          refine L.alloc rfl ze36 (fun b8 => ?_)
          refine A.backT rfl qD ?_
          refine A.branch (is := [13]) (by kernel_rfl) (by decide) (Each.cons rfl ?_ <| Each.nil) 
          refine L.storeA ag36 rfl rfl qL qO qU qW ?_
          refine A.backT rfl qD ?_
          refine A.branch (is := [14]) (by kernel_rfl) (by decide) (Each.cons rfl ?_ <| Each.nil) 
          refine L.storeA ag36 rfl rfl qL qO qU qW ?_
          refine A.backT rfl qD ?_
          refine A.done (by kernel_rfl) ?_
          refine T.thenN ?_
          exact T.toJoin ⟨_, _, rfl, rfl, rfl⟩ (.cons (t := 7) rfl <| .cons (t := 8) rfl <| SubK.nil _) (.cons (t := 3) rfl <| .cons (t := 5) rfl <| .cons (t := 6) rfl <| SubK.nil _) qD qD qF
        · skip
          refine L.alloc rfl ze36 (fun b8 => ?_)
          refine A.backT rfl qD ?_
          refine A.branch (is := [11]) (by kernel_rfl) (by decide) (Each.cons rfl ?_ <| Each.nil) 
          refine L.alloc rfl ze36 (fun b7 => ?_)
          refine A.backT rfl qD ?_
          refine A.branch (is := [13]) (by kernel_rfl) (by decide) (Each.cons rfl ?_ <| Each.nil) 
          refine L.storeA ag36 rfl rfl qL qO qU qW ?_
          refine A.backT rfl qD ?_
          refine A.branch (is := [14]) (by kernel_rfl) (by decide) (Each.cons rfl ?_ <| Each.nil) 
          refine L.storeA ag36 rfl rfl qL qO qU qW ?_
          refine A.backT rfl qD ?_
          refine A.done (by kernel_rfl) ?_
          refine T.thenN ?_
          exact T.toJoin ⟨_, _, rfl, rfl, rfl⟩ (.cons (t := 7) rfl <| .cons (t := 8) rfl <| SubK.nil _) (.cons (t := 3) rfl <| .cons (t := 5) rfl <| .cons (t := 6) rfl <| SubK.nil _) qD qD qF
      rintro _ _ _ ⟨p7, p8, rfl, rfl, rfl⟩
      refine T.norm3 qA qA qA ?_
      refine T.thenN ?_
      refine T.seq ?_
      refine T.cutC (fun K' D' M' => ∃ (q1 : Bool), (q1 = false) ∧ K' = [(91, .bool q1)] ∧ D' = [] ∧ M' = []) (M0 := [cl p7 36 (eT (gd ys (j - 1))), cl p8 36 (eT (gd ys j))]) (.cons (t := 3) rfl <| .cons (t := 5) rfl <| .cons (t := 6) rfl <| SubK.nil _) qS ?_ ?_
      · skip
        refine T.region ?_
        first | refine L.field0 rfl fo36_0 rfl ?_ | refine L.field rfl fo36_0 rfl ?_
        refine L.load rfl sc9 rfl qC ?_
        first | refine L.field0 rfl fo36_0 rfl ?_ | refine L.field rfl fo36_0 rfl ?_
        refine L.load rfl sc9 rfl qC ?_
        refine L.gtS rfl rfl rfl ?_
        refine L.move rfl rfl ?_
        refine L.part (t := 76) rfl (fun h2 => ?_) (fun h2 => ?_)
        · try simp only [decide_eq_true_eq, decide_eq_false_iff_not, Bool.not_eq_true', Bool.not_eq_false', Bool.and_eq_true, Bool.or_eq_true] at h2
          refine L.guardF (dj := 76) (c := true) rfl rfl rfl rfl rfl (by decide) ?_
          refine L.guardF (dj := 76) (c := true) rfl rfl rfl rfl rfl (by decide) ?_
          refine L.guardF (dj := 76) (c := true) rfl rfl rfl rfl rfl (by decide) ?_
          refine L.guardF (dj := 76) (c := true) rfl rfl rfl rfl rfl (by decide) ?_
          refine L.guardF (dj := 76) (c := true) rfl rfl rfl rfl rfl (by decide) ?_
          refine L.guardF (dj := 76) (c := true) rfl rfl rfl rfl rfl (by decide) ?_
          refine L.guardU (dj := 82) rfl rfl rfl rfl rfl ?_
          refine L.guardU (dj := 82) rfl rfl rfl rfl rfl ?_
          refine L.guardU (dj := 82) rfl rfl rfl rfl rfl ?_
          refine L.guardU (dj := 82) rfl rfl rfl rfl rfl ?_
          refine L.guardU (dj := 82) rfl rfl rfl rfl rfl ?_
          refine L.guardU (dj := 82) rfl rfl rfl rfl rfl ?_
          refine L.guardU (dj := 82) rfl rfl rfl rfl rfl ?_
          refine L.guardF (dj := 76) (c := true) rfl rfl rfl rfl rfl (by decide) ?_
          refine L.pickT rfl rfl rfl ?_
          refine L.nil ?_
          refine T.thenN ?_
          exact T.toJoin ⟨_, (by simp_all), rfl, rfl, rfl⟩ (.cons (t := 91) rfl <| SubK.nil _) (.cons (t := 3) rfl <| .cons (t := 5) rfl <| .cons (t := 6) rfl <| SubK.nil _) qD qD qF
        · try simp only [decide_eq_true_eq, decide_eq_false_iff_not, Bool.not_eq_true', Bool.not_eq_false', Bool.and_eq_true, Bool.or_eq_true] at h2
          refine L.guardT (dj := 76) rfl rfl rfl ?_
          first | refine L.field0 rfl fo36_0 rfl ?_ | refine L.field rfl fo36_0 rfl ?_
          refine L.guardT (dj := 76) rfl rfl rfl ?_
          refine L.load rfl sc9 rfl qC ?_
          refine L.guardT (dj := 76) rfl rfl rfl ?_
          first | refine L.field0 rfl fo36_0 rfl ?_ | refine L.field rfl fo36_0 rfl ?_
          refine L.guardT (dj := 76) rfl rfl rfl ?_
          refine L.load rfl sc9 rfl qC ?_
          refine L.guardT (dj := 76) rfl rfl rfl ?_
          refine L.eqS rfl rfl rfl ?_
          refine L.guardT (dj := 76) rfl rfl rfl ?_
          refine L.move rfl rfl ?_
          refine L.part (t := 82) rfl (fun h3 => ?_) (fun h3 => ?_)
          · try simp only [decide_eq_true_eq, decide_eq_false_iff_not, Bool.not_eq_true', Bool.not_eq_false', Bool.and_eq_true, Bool.or_eq_true] at h3
            refine L.guardT (dj := 82) rfl rfl rfl ?_
            first | refine L.field0 rfl fo36_1 rfl ?_ | refine L.field rfl fo36_1 rfl ?_
            refine L.guardT (dj := 82) rfl rfl rfl ?_
            first | refine L.field0 rfl fo24_1 rfl ?_ | refine L.field rfl fo24_1 rfl ?_
            refine L.guardT (dj := 82) rfl rfl rfl ?_
            refine L.load rfl sc9 rfl qC ?_
            refine L.guardT (dj := 82) rfl rfl rfl ?_
            first | refine L.field0 rfl fo36_1 rfl ?_ | refine L.field rfl fo36_1 rfl ?_
            refine L.guardT (dj := 82) rfl rfl rfl ?_
            first | refine L.field0 rfl fo24_1 rfl ?_ | refine L.field rfl fo24_1 rfl ?_
            refine L.guardT (dj := 82) rfl rfl rfl ?_
            refine L.load rfl sc9 rfl qC ?_
            refine L.guardT (dj := 82) rfl rfl rfl ?_
            refine L.geS rfl rfl rfl ?_
            refine L.guardT (dj := 76) rfl rfl rfl ?_
            refine L.pickT rfl rfl rfl ?_
            refine L.pickF rfl rfl rfl ?_
            refine L.nil ?_
            refine T.thenN ?_
            exact T.toJoin ⟨_, (by simp_all), rfl, rfl, rfl⟩ (.cons (t := 91) rfl <| SubK.nil _) (.cons (t := 3) rfl <| .cons (t := 5) rfl <| .cons (t := 6) rfl <| SubK.nil _) qD qD qF
          · try simp only [decide_eq_true_eq, decide_eq_false_iff_not, Bool.not_eq_true', Bool.not_eq_false', Bool.and_eq_true, Bool.or_eq_true] at h3
            refine L.guardF (dj := 82) (c := false) rfl rfl rfl rfl rfl (by decide) ?_
            refine L.guardF (dj := 82) (c := false) rfl rfl rfl rfl rfl (by decide) ?_
            refine L.guardF (dj := 82) (c := false) rfl rfl rfl rfl rfl (by decide) ?_
            refine L.guardF (dj := 82) (c := false) rfl rfl rfl rfl rfl (by decide) ?_
            refine L.guardF (dj := 82) (c := false) rfl rfl rfl rfl rfl (by decide) ?_
            refine L.guardF (dj := 82) (c := false) rfl rfl rfl rfl rfl (by decide) ?_
            refine L.guardF (dj := 82) (c := false) rfl rfl rfl rfl rfl (by decide) ?_
            refine L.guardT (dj := 76) rfl rfl rfl ?_
            refine L.pickF rfl rfl rfl ?_
            refine L.pickF rfl rfl rfl ?_
            refine L.nil ?_
            refine T.thenN ?_
            exact T.toJoin ⟨_, (by simp_all), rfl, rfl, rfl⟩ (.cons (t := 91) rfl <| SubK.nil _) (.cons (t := 3) rfl <| .cons (t := 5) rfl <| .cons (t := 6) rfl <| SubK.nil _) qD qD qF
      rintro _ _ _ ⟨q1, hq1, rfl, rfl, rfl⟩
      refine T.norm3 qA qA qA ?_
      refine T.thenN ?_
      refine T.condF rfl (by simp_all) ?_
      refine T.skip ?_
      refine T.blkN ?_
      refine T.thenN ?_
      refine T.region ?_
      refine L.move rfl rfl ?_
      refine L.addN rfl rfl rfl (by omega) ?_
      refine L.assign rfl rfl ?_
      refine L.nil ?_
      refine T.thenN ?_
      exact T.back ⟨j + 1, (by omega), rfl, rfl, rfl, rfl⟩ qI (.cons (t := 6) rfl <| SubK.nil _) (.cons (t := 3) rfl <| .cons (t := 5) rfl <| SubK.nil _) qD qD qF
    · try simp only [decide_eq_true_eq, decide_eq_false_iff_not, Bool.not_eq_true', Bool.not_eq_false', Bool.and_eq_true, Bool.or_eq_true] at h57
      refine T.exit ?_
      refine T.thenX ?_
      refine T.thenX ?_
      refine T.blkX ?_
      refine T.thenN ?_
      refine T.seq ?_
      refine T.seq ?_
      refine T.region ?_
      refine L.move rfl rfl ?_
      refine L.lenSl rfl Try.underlying22 rfl ?_
      refine L.move rfl rfl ?_
      refine L.nil ?_
      refine T.thenN ?_
      refine T.block ?_
      refine T.loop (fun K' D' M' μ => ∃ (q : Nat) (rws : List (List Value)), (q ≤ i ∧ (∀ j, j < i → ∃ v0 v1 v2 v3, rws[j]? = some [v0, v1, v2, v3])) ∧ K' = [(94, .int .i64 q)] ∧ D' = [] ∧ M' = [own 4 36 a1 i c1 (rws)] ∧ μ = i - q) (.cons (t := 3) rfl <| .cons (t := 5) rfl <| .cons (t := 93) rfl <| SubK.nil _) (⟨0, acc.map eT, ⟨by omega, fun j hj => ⟨_, _, _, _, map_get (gd_get (by omega))⟩⟩, rfl, rfl, rfl, rfl⟩) (.cons (t := 94) rfl <| SubK.nil _) qD qS ?_
      rintro K1 D1 M1 m1 ⟨q, rws, ⟨hq, hW⟩, rfl, rfl, rfl, rfl⟩
      refine T.norm3 qA qA qA ?_
      refine T.seq ?_
      refine T.region ?_
      refine L.ltI rfl rfl rfl ?_
      refine L.nil ?_
      refine T.thenN ?_
      refine T.seq ?_
      refine T.cond rfl (fun h95 => ?_) (fun h95 => ?_)
      · try simp only [decide_eq_true_eq, decide_eq_false_iff_not, Bool.not_eq_true', Bool.not_eq_false', Bool.and_eq_true, Bool.or_eq_true] at h95
        refine T.skip ?_
        refine T.thenN ?_
        refine T.seq ?_
        refine T.block ?_
        refine T.seq ?_
        refine T.region ?_
        refine L.move rfl rfl ?_
        refine L.assign rfl rfl ?_
        refine L.nil ?_
        refine T.thenN ?_
        refine T.ownNe qM (by omega) (fun b o ha => ?_)
        subst ha
        obtain ⟨rw0, rw1, rw2, rw3, hrq⟩ : ∃ v0 v1 v2 v3, rws[q]? = some [v0, v1, v2, v3] := hW q (by omega)
        refine T.region ?_
        refine L.move rfl rfl ?_
        refine L.move rfl rfl ?_
        refine L.idxG (i := q) rfl Try.underlying22 sz36 rfl rfl (by first | rfl | omega | (simp; done)) qI ?_
        first | refine L.field0 rfl fo36_0 rfl ?_ | refine L.field rfl fo36_0 rfl ?_
        refine L.storeF (q) (0) sc9 rfl (by first | rfl | omega | (simp; done)) rfl rfl qP qG qE ?_
        refine L.nil ?_
        refine T.blkN ?_
        refine T.thenN ?_
        refine T.region ?_
        refine L.addN rfl rfl rfl (by omega) ?_
        refine L.move rfl rfl ?_
        refine L.nil ?_
        refine T.thenN ?_
        refine T.ownEq _ (rws.set q [S [122, 122], rw1, rw2, rw3]) qP (by rfl) ?_
        exact T.back ⟨q + 1, rws.set q [S [122, 122], rw1, rw2, rw3], ⟨by omega, rows4_set hW⟩, rfl, rfl, rfl, rfl⟩ qI (.cons (t := 94) rfl <| SubK.nil _) (.cons (t := 3) rfl <| .cons (t := 5) rfl <| .cons (t := 93) rfl <| SubK.nil _) qD qD qF
      · try simp only [decide_eq_true_eq, decide_eq_false_iff_not, Bool.not_eq_true', Bool.not_eq_false', Bool.and_eq_true, Bool.or_eq_true] at h95
        refine T.exit ?_
        refine T.thenX ?_
        refine T.thenX ?_
        refine T.blkX ?_
        refine T.thenN ?_
        refine T.seq ?_
        refine T.seq ?_
        refine T.region ?_
        first | refine L.field0 rfl fo24_2 rfl ?_ | refine L.field rfl fo24_2 rfl ?_
        refine L.load rfl sc22 rfl qC ?_
        refine L.lenSl rfl Try.underlying22 rfl ?_
        refine L.move rfl rfl ?_
        refine L.nil ?_
        refine T.thenN ?_
        refine T.block ?_
        refine T.loop (fun K' D' M' μ => ∃ (q : Nat), (q ≤ i) ∧ K' = [(105, .int .i64 q)] ∧ D' = [] ∧ M' = [] ∧ μ = i - q) (.cons (t := 3) rfl <| .cons (t := 103) rfl <| .cons (t := 104) rfl <| SubK.nil _) (⟨0, (by omega), rfl, rfl, rfl, rfl⟩) (.cons (t := 105) rfl <| SubK.nil _) qD qS ?_
        rintro K1 D1 M1 m1 ⟨q, hq, rfl, rfl, rfl, rfl⟩
        refine T.norm3 qA qA qA ?_
        refine T.seq ?_
        refine T.region ?_
        refine L.ltI rfl rfl rfl ?_
        refine L.nil ?_
        refine T.thenN ?_
        refine T.seq ?_
        refine T.cond rfl (fun h106 => ?_) (fun h106 => ?_)
        · try simp only [decide_eq_true_eq, decide_eq_false_iff_not, Bool.not_eq_true', Bool.not_eq_false', Bool.and_eq_true, Bool.or_eq_true] at h106
          refine T.skip ?_
          refine T.thenN ?_
          refine T.seq ?_
          refine T.block ?_
          refine T.seq ?_
          have hg3 : ys[q]? = some (gd ys q) := gd_get (by omega)
          obtain ⟨tc, htc, _⟩ := sh_text hS (hk.sm.2 _ (gd_mem (zs := ys) (i := q) (by omega)))
          refine T.region ?_
          refine L.idx (i := q) rfl Try.underlying22 sz36 rfl rfl qM (by first | rfl | omega | (simp; done)) qG (fun b107 o107 => ?_)
          refine L.loadA rfl ag36 rfl qN ?_
          refine L.alloc rfl ze36 (fun b11 => ?_)
          refine L.storeA ag36 rfl rfl qL qO qU qW ?_
          refine L.nil ?_
          refine T.thenN ?_
          refine T.seq ?_
          refine T.cutC (fun K' D' M' => ∃ (q2 : Bool), (q2 = false) ∧ K' = [(122, .bool q2)] ∧ D' = [] ∧ M' = []) (M0 := [cl b11 36 (eT (gd ys q))]) (.cons (t := 3) rfl <| .cons (t := 103) rfl <| .cons (t := 104) rfl <| .cons (t := 105) rfl <| SubK.nil _) qS ?_ ?_
          · skip
            refine T.region ?_
            refine L.move rfl rfl ?_
            refine L.lenSl rfl Try.underlying22 rfl ?_
            refine L.gtI rfl rfl rfl ?_
            refine L.move rfl rfl ?_
            refine L.part (t := 112) rfl (fun h4 => ?_) (fun h4 => ?_)
            · try simp only [decide_eq_true_eq, decide_eq_false_iff_not, Bool.not_eq_true', Bool.not_eq_false', Bool.and_eq_true, Bool.or_eq_true] at h4
              refine L.guardT (dj := 112) rfl rfl rfl ?_
              first | refine L.field0 rfl fo36_0 rfl ?_ | refine L.field rfl fo36_0 rfl ?_
              refine L.guardT (dj := 112) rfl rfl rfl ?_
              refine L.load rfl sc9 rfl qC ?_
              refine L.guardT (dj := 112) rfl rfl rfl ?_
              refine L.eqS rfl rfl rfl ?_
              refine L.pickT rfl rfl rfl ?_
              refine L.move rfl rfl ?_
              refine L.part (t := 117) rfl (fun h5 => ?_) (fun h5 => ?_)
              · try simp only [decide_eq_true_eq, decide_eq_false_iff_not, Bool.not_eq_true', Bool.not_eq_false', Bool.and_eq_true, Bool.or_eq_true] at h5
                refine L.guardT (dj := 117) rfl rfl rfl ?_
                first | refine L.field0 rfl fo36_1 rfl ?_ | refine L.field rfl fo36_1 rfl ?_
                refine L.guardT (dj := 117) rfl rfl rfl ?_
                first | refine L.field0 rfl fo24_1 rfl ?_ | refine L.field rfl fo24_1 rfl ?_
                refine L.guardT (dj := 117) rfl rfl rfl ?_
                refine L.load rfl sc9 rfl qC ?_
                refine L.guardT (dj := 117) rfl rfl rfl ?_
                refine L.eqS rfl rfl rfl ?_
                refine L.pickT rfl rfl rfl ?_
                refine L.nil ?_
                refine T.thenN ?_
                exact T.toJoin ⟨_, (by simp_all), rfl, rfl, rfl⟩ (.cons (t := 122) rfl <| SubK.nil _) (.cons (t := 3) rfl <| .cons (t := 103) rfl <| .cons (t := 104) rfl <| .cons (t := 105) rfl <| SubK.nil _) qD qD qF
              · try simp only [decide_eq_true_eq, decide_eq_false_iff_not, Bool.not_eq_true', Bool.not_eq_false', Bool.and_eq_true, Bool.or_eq_true] at h5
                refine L.guardF (dj := 117) (c := false) rfl rfl rfl rfl rfl (by decide) ?_
                refine L.guardF (dj := 117) (c := false) rfl rfl rfl rfl rfl (by decide) ?_
                refine L.guardF (dj := 117) (c := false) rfl rfl rfl rfl rfl (by decide) ?_
                refine L.guardF (dj := 117) (c := false) rfl rfl rfl rfl rfl (by decide) ?_
                refine L.pickF rfl rfl rfl ?_
                refine L.nil ?_
                refine T.thenN ?_
                exact T.toJoin ⟨_, (by simp_all), rfl, rfl, rfl⟩ (.cons (t := 122) rfl <| SubK.nil _) (.cons (t := 3) rfl <| .cons (t := 103) rfl <| .cons (t := 104) rfl <| .cons (t := 105) rfl <| SubK.nil _) qD qD qF
            · try simp only [decide_eq_true_eq, decide_eq_false_iff_not, Bool.not_eq_true', Bool.not_eq_false', Bool.and_eq_true, Bool.or_eq_true] at h4
              refine L.guardF (dj := 112) (c := false) rfl rfl rfl rfl rfl (by decide) ?_
              refine L.guardF (dj := 112) (c := false) rfl rfl rfl rfl rfl (by decide) ?_
              refine L.guardF (dj := 112) (c := false) rfl rfl rfl rfl rfl (by decide) ?_
              refine L.pickF rfl rfl rfl ?_
              refine L.move rfl rfl ?_
              refine L.guardF (dj := 117) (c := false) rfl rfl rfl rfl rfl (by decide) ?_
              refine L.guardF (dj := 117) (c := false) rfl rfl rfl rfl rfl (by decide) ?_
              refine L.guardF (dj := 117) (c := false) rfl rfl rfl rfl rfl (by decide) ?_
              refine L.guardF (dj := 117) (c := false) rfl rfl rfl rfl rfl (by decide) ?_
              refine L.pickF rfl rfl rfl ?_
              refine L.nil ?_
              refine T.thenN ?_
              exact T.toJoin ⟨_, (by simp_all), rfl, rfl, rfl⟩ (.cons (t := 122) rfl <| SubK.nil _) (.cons (t := 3) rfl <| .cons (t := 103) rfl <| .cons (t := 104) rfl <| .cons (t := 105) rfl <| SubK.nil _) qD qD qF
          rintro _ _ _ ⟨q2, hq2, rfl, rfl, rfl⟩
          refine T.norm3 qA qA qA ?_
          refine T.thenN ?_
          refine T.condF rfl (by simp_all) ?_
          refine T.skip ?_
          refine T.blkN ?_
          refine T.thenN ?_
          refine T.region ?_
          refine L.addN rfl rfl rfl (by omega) ?_
          refine L.move rfl rfl ?_
          refine L.nil ?_
          refine T.thenN ?_
          exact T.back ⟨q + 1, (by omega), rfl, rfl, rfl, rfl⟩ qI (.cons (t := 105) rfl <| SubK.nil _) (.cons (t := 3) rfl <| .cons (t := 103) rfl <| .cons (t := 104) rfl <| SubK.nil _) qD qD qF
        · try simp only [decide_eq_true_eq, decide_eq_false_iff_not, Bool.not_eq_true', Bool.not_eq_false', Bool.and_eq_true, Bool.or_eq_true] at h106
          refine T.exit ?_
          refine T.thenX ?_
          refine T.thenX ?_
          refine T.blkX ?_
          refine T.thenN ?_
          refine T.seq ?_
          refine T.region ?_
          refine L.assign rfl rfl ?_
          refine L.nil ?_
          refine T.thenN ?_
          refine T.ret ?_
          exact T.ret1 rfl rfl ⟨rfl, rfl, rfl⟩ qD qF
end Cv
