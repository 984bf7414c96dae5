/-
  The walks: the reference is answered.
-/
import Derived.Test.YtcfhpmijippbmaaGreatRc25
import Derived.Test.YtcfhpmijippbmaaGreatProg
import Derived.KernelRfl
set_option linter.unusedVariables false
set_option linter.unusedSimpArgs false
set_option linter.unusedSectionVars false
set_option maxRecDepth 10000
namespace Cv
open Go Go.Proofs
def rmissF (ol : List Ord) (ll : List (LK × Int)) (i now : Int) : List Ord × List (LK × Int) :=
  if i < 0 then (ol, ll) else (ol.eraseIdx i.toNat, setK ll ((gd ol i.toNat).2.1, (gd ol i.toNat).1.2.1) (now + 12))
theorem fo45_0 : Fo Tryz.prog 45 0 0 := fun a w => by kernel_rfl
theorem zv106 : ∀ w, (zeroValue 106).run Tryz.prog w = .ok (Value.agg #[Value.int .i64 0, S [], S []]) w := fun w => by kernel_rfl
theorem bu106 : Bu Tryz.prog 106 [Value.int .i64 0, S [], S []] (fun (i : Nat) => ([(0, 1), (1, 1), (2, 1)] : List (Nat × Nat))[i]?) := bu_of Tryz.underlying106 zv106 rfl (fun w => by kernel_rfl)
theorem fo45_2 : Fo Tryz.prog 45 2 2 := fun a w => by kernel_rfl
set_option maxHeartbeats 400000 in
theorem rblk_spec {o sq : Int} {oa la ma : Option Addr} {on oc ln lc mn mc : Nat} {ol : List Ord} {ll : List (LK × Int)} {ml : List (Int × Mind)} {i now : Int} {tx : List UInt8} (hon : on ≤ 1000) (hln : ln ≤ 1000000) (hml : ml.length ≤ 1000) (hmk : ∀ k, MOk (atM ml k)) (hi : i < on) (h0 : 0 ≤ now) (h9 : now ≤ 100000000) (htx : tx.length ≤ 35184372088832) : Spec Tryz.prog 52 [.agg (xC o sq oa on oc la ln lc ma mn mc).toArray, .int .i64 i, S tx, .int .i64 now] [rsl 6 oa on oc (ol.map oR), rsl 3 la ln lc (ll.map kR), rsl 8 ma mn mc (ml.map rrow)] [] (fun v D' M' => ∃ (r : RBlk) (a1 a2 a3 : Option Addr) (l1 c1 l2 c2 l3 c3 : Nat), v = .tuple #[.agg (xC o sq a1 l1 c1 a2 l2 c2 a3 l3 c3).toArray, .int .i64 r.2.2.2] ∧ (r = rblkF ol ll ml i tx now) ∧ (r.1.length = l1) ∧ (r.2.1.length = l2) ∧ D' = [rsl 6 a1 l1 c1 ((r.1).map oR), rsl 3 a2 l2 c2 ((r.2.1).map kR), rsl 8 a3 l3 c3 ((r.2.2.1).map rrow)] ∧ M' = []) := by
  refine Spec.intro (n := 74) Tryz.func52 rfl rfl (by decide) (Nat.le_of_ble_eq_true rfl) rfl (fun _ => qA) (fun _ => qA) ?_
  intro σ D M
  refine T.rslLen2 (rows := ol.map oR) qM (fun hol hoc => ?_)
  rw [List.length_map] at hol
  refine T.rslLen2 (rows := ll.map kR) qM (fun hll hlc => ?_)
  rw [List.length_map] at hll
  refine T.seq ?_
  refine T.region ?_
  refine L.box rfl rfl rfl (fun b4 => ?_)
  refine L.alloc rfl ze34 (fun b8 => ?_)
  refine L.assign rfl rfl ?_
  refine L.nil ?_
  refine T.thenN ?_
  refine T.seq ?_
  refine T.seq ?_
  refine T.region ?_
  refine L.move rfl rfl ?_
  refine L.ltI rfl rfl rfl ?_
  refine L.nil ?_
  refine T.thenN ?_
  refine T.cond rfl (fun h14 => ?_) (fun h14 => ?_)
  · try simp only [decide_eq_true_eq, decide_eq_false_iff_not, Bool.not_eq_true', Bool.not_eq_false', Bool.and_eq_true, Bool.or_eq_true] at h14
    have hB : rblkF ol ll ml i tx now = (ol, ll, ml, 7) := by unfold rblkF; rw [if_pos h14]
    refine T.seq ?_
    refine T.region ?_
    refine L.loadA rfl ag34 rfl qN ?_
    refine L.storeA ag34 rfl rfl qL qO qU qW ?_
    refine L.assign rfl rfl ?_
    refine L.nil ?_
    refine T.thenN ?_
    refine T.ret ?_
    refine T.thenR ?_
    exact T.retAT rfl ag34 rfl qN rfl ⟨(ol, ll, ml, 7), _, _, _, _, _, _, _, _, _, rfl, hB.symm, hol, hll, rfl, rfl⟩ qD qF
  · try simp only [decide_eq_true_eq, decide_eq_false_iff_not, Bool.not_eq_true', Bool.not_eq_false', Bool.and_eq_true, Bool.or_eq_true] at h14
    obtain ⟨j, hj⟩ : ∃ j : Nat, i = (j : Int) := ⟨i.toNat, by omega⟩
    subst hj
    have hjt : ((j : Nat) : Int).toNat = j := rfl
    obtain ⟨x, hx⟩ : ∃ x, x = gd ol j := ⟨_, rfl⟩
    have hgj : ol[j]? = some (gd ol j) := gd_get (by omega)
    rw [← hx] at hgj
    have hgo : (ol.map oR)[j]? = some (oR x) := map_get hgj
    have hel : (ol.eraseIdx j).length = on - 1 := by rw [List.length_eraseIdx, if_pos (by omega)]; omega
    refine T.skip ?_
    refine T.thenN ?_
    refine T.seq ?_
    refine T.region ?_
    first | refine L.field0 rfl fo34_2 rfl ?_ | refine L.field rfl fo34_2 rfl ?_
    refine L.load rfl sc30 rfl qC ?_
    refine L.move rfl rfl ?_
    refine L.idx (i := j) rfl Tryz.underlying30 sz47 rfl rfl qM (by first | rfl | omega | (simp; done)) qG (fun b19 o19 => ?_)
    refine L.loadA rfl ag47 rfl qN ?_
    refine L.alloc rfl ze47 (fun b10 => ?_)
    refine L.storeA ag47 rfl rfl qL qO qU qW ?_
    refine L.nil ?_
    refine T.thenN ?_
    refine T.seq ?_
    refine T.region ?_
    refine L.loadA rfl ag34 rfl qN ?_
    refine L.move rfl rfl ?_
    refine L.call rfl (evs.cons rfl <| evs.cons rfl <| evs.nil) qD qS (rwithout_spec (ol := ol) (i := j) (by omega) (by omega)) ?_
    rintro _ _ _ ⟨wa, wl, wc, rfl, hwl, rfl, rfl⟩
    refine L.norm qA qA ?_
    refine L.storeA ag34 rfl rfl qL qO qU qW ?_
    refine L.nil ?_
    refine T.thenN ?_
    refine T.seq ?_
    refine T.seq ?_
    refine T.regionQ (by kernel_rfl) (by kernel_rfl) ?_
    first | refine L.field0 rfl fo47_0 rfl ?_ | refine L.field rfl fo47_0 rfl ?_
    first | refine L.field0 rfl fo45_0 rfl ?_ | refine L.field rfl fo45_0 rfl ?_
    refine L.load rfl sc3 rfl qC ?_
    refine L.move rfl rfl ?_
    refine L.callF rfl (evs.cons rfl <| evs.cons rfl <| evs.nil) qD qS (r2of_spec htx) (by rintro u D1 M1 ⟨rfl, rfl, rfl⟩; exact ⟨rfl, _, qA, qF⟩) ?_
    first | refine L.field0 rfl fo47_0 rfl ?_ | refine L.field rfl fo47_0 rfl ?_
    first | refine L.field0 rfl fo45_1 rfl ?_ | refine L.field rfl fo45_1 rfl ?_
    refine L.load rfl sc9 rfl qC ?_
    refine L.neS rfl rfl rfl ?_
    refine L.nilQ ?_
    refine T.thenN ?_
    refine T.cond rfl (fun h32 => ?_) (fun h32 => ?_)
    · try simp only [decide_eq_true_eq, decide_eq_false_iff_not, Bool.not_eq_true', Bool.not_eq_false', Bool.and_eq_true, Bool.or_eq_true] at h32
      have hne : oidF x.1.1 tx ≠ x.1.2.1.1 := h32
      have hB : rblkF ol ll ml (j : Int) tx now = (ol.eraseIdx j, ll, banL ml x.2.1 (x.1.1, x.1.2.1.1, tx), 3) := by unfold rblkF; rw [if_neg h14, hjt, ← hx, if_pos hne]
      refine T.seq ?_
      refine T.region ?_
      first | refine L.field0 rfl fo34_4 rfl ?_ | refine L.field rfl fo34_4 rfl ?_
      refine L.load rfl sc32 rfl qC ?_
      first | refine L.field0 rfl fo47_1 rfl ?_ | refine L.field rfl fo47_1 rfl ?_
      refine L.load rfl sc3 rfl qC ?_
      first | refine L.field0 rfl fo47_0 rfl ?_ | refine L.field rfl fo47_0 rfl ?_
      first | refine L.field0 rfl fo45_0 rfl ?_ | refine L.field rfl fo45_0 rfl ?_
      refine L.load rfl sc3 rfl qC ?_
      first | refine L.field0 rfl fo47_0 rfl ?_ | refine L.field rfl fo47_0 rfl ?_
      first | refine L.field0 rfl fo45_1 rfl ?_ | refine L.field rfl fo45_1 rfl ?_
      refine L.load rfl sc9 rfl qC ?_
      refine L.move rfl rfl ?_
      refine L.build rfl bu106 (BP.one rfl rfl rfl <| BP.one rfl rfl rfl <| BP.one rfl rfl rfl <| BP.doneE (out := []) rfl) ?_
      refine L.call rfl (evs.cons rfl <| evs.cons rfl <| evs.cons rfl <| evs.nil) qD qS (rban_spec (l := ml) (n := x.2.1) (k := x.1.1) (id := x.1.2.1.1) (tx := tx) hml htx) ?_
      rintro _ _ _ ⟨ba, bl, bc, rfl, rfl, rfl⟩
      refine L.norm qA qA ?_
      refine L.move rfl rfl ?_
      refine L.extract rfl rfl rfl ?_
      refine L.extract rfl rfl rfl ?_
      refine L.assign rfl rfl ?_
      refine L.assign rfl rfl ?_
      refine L.nil ?_
      refine T.thenN ?_
      refine T.seq ?_
      refine T.region ?_
      refine L.move rfl rfl ?_
      first | refine L.field0 rfl fo34_4 rfl ?_ | refine L.field rfl fo34_4 rfl ?_
      refine L.store sc32 rfl rfl rfl qU qE ?_
      refine L.nil ?_
      refine T.thenN ?_
      refine T.seq ?_
      refine T.region ?_
      refine L.loadA rfl ag34 rfl qN ?_
      refine L.storeA ag34 rfl rfl qL qO qU qW ?_
      refine L.assign rfl rfl ?_
      refine L.nil ?_
      refine T.thenN ?_
      refine T.ret ?_
      refine T.thenR ?_
      exact T.retAT rfl ag34 rfl qN rfl ⟨(ol.eraseIdx j, ll, banL ml x.2.1 (x.1.1, x.1.2.1.1, tx), 3), _, _, _, _, _, _, _, _, _, rfl, hB.symm, hwl.symm, hll, rfl, rfl⟩ qD qF
    · try simp only [decide_eq_true_eq, decide_eq_false_iff_not, Bool.not_eq_true', Bool.not_eq_false', Bool.and_eq_true, Bool.or_eq_true] at h32
      have hne : ¬ oidF x.1.1 tx ≠ x.1.2.1.1 := fun e => e h32
      refine T.skip ?_
      refine T.thenN ?_
      refine T.seq ?_
      refine T.seq ?_
      refine T.region ?_
      refine L.move rfl rfl ?_
      refine L.lenStr rfl Tryz.underlying9 rfl ?_
      first | refine L.field0 rfl fo47_0 rfl ?_ | refine L.field rfl fo47_0 rfl ?_
      first | refine L.field0 rfl fo45_2 rfl ?_ | refine L.field rfl fo45_2 rfl ?_
      refine L.load rfl sc3 rfl qC ?_
      refine L.gtI rfl rfl rfl ?_
      refine L.nil ?_
      refine T.thenN ?_
      refine T.cond rfl (fun h57 => ?_) (fun h57 => ?_)
      · try simp only [decide_eq_true_eq, decide_eq_false_iff_not, Bool.not_eq_true', Bool.not_eq_false', Bool.and_eq_true, Bool.or_eq_true] at h57
        have hB : rblkF ol ll ml (j : Int) tx now = (ol.eraseIdx j, setK ll (x.2.1, x.1.2.1) (now + 12), ml, 5) := by unfold rblkF; rw [if_neg h14, hjt, ← hx, if_neg hne]; exact if_pos (by omega)
        refine T.seq ?_
        refine T.region ?_
        refine L.loadA rfl ag34 rfl qN ?_
        first | refine L.field0 rfl fo47_1 rfl ?_ | refine L.field rfl fo47_1 rfl ?_
        refine L.load rfl sc3 rfl qC ?_
        first | refine L.field0 rfl fo47_0 rfl ?_ | refine L.field rfl fo47_0 rfl ?_
        first | refine L.field0 rfl fo45_1 rfl ?_ | refine L.field rfl fo45_1 rfl ?_
        refine L.load rfl sc9 rfl qC ?_
        refine L.move rfl rfl ?_
        refine L.addN rfl rfl rfl (by omega) ?_
        refine L.call rfl (evs.cons rfl <| evs.cons rfl <| evs.cons rfl <| evs.cons rfl <| evs.nil) qD qS (rlack_spec (ll := ll) (n := x.2.1) (id := x.1.2.1) (u := now + 12) hln) ?_
        rintro _ _ _ ⟨ka, kl, kc, rfl, hkl, rfl, rfl⟩
        refine L.norm qA qA ?_
        refine L.storeA ag34 rfl rfl qL qO qU qW ?_
        refine L.assign rfl rfl ?_
        refine L.nil ?_
        refine T.thenN ?_
        refine T.ret ?_
        refine T.thenR ?_
        exact T.retAT rfl ag34 rfl qN rfl ⟨(ol.eraseIdx j, setK ll (x.2.1, x.1.2.1) (now + 12), ml, 5), _, _, _, _, _, _, _, _, _, rfl, hB.symm, hwl.symm, hkl.symm, rfl, rfl⟩ qD qF
      · try simp only [decide_eq_true_eq, decide_eq_false_iff_not, Bool.not_eq_true', Bool.not_eq_false', Bool.and_eq_true, Bool.or_eq_true] at h57
        have hB : rblkF ol ll ml (j : Int) tx now = (ol.eraseIdx j, ll, setL ml x.2.1 (goodM (atM ml x.2.1)), 0) := by unfold rblkF; rw [if_neg h14, hjt, ← hx, if_neg hne]; exact if_neg (by omega)
        refine T.skip ?_
        refine T.thenN ?_
        refine T.seq ?_
        refine T.region ?_
        first | refine L.field0 rfl fo34_4 rfl ?_ | refine L.field rfl fo34_4 rfl ?_
        refine L.load rfl sc32 rfl qC ?_
        first | refine L.field0 rfl fo47_1 rfl ?_ | refine L.field rfl fo47_1 rfl ?_
        refine L.load rfl sc3 rfl qC ?_
        refine L.call rfl (evs.cons rfl <| evs.cons rfl <| evs.nil) qD qS (rgood_spec (l := ml) (n := x.2.1) hml (hmk _)) ?_
        rintro _ _ _ ⟨ba, bl, bc, rfl, rfl, rfl⟩
        refine L.norm qA qA ?_
        first | refine L.field0 rfl fo34_4 rfl ?_ | refine L.field rfl fo34_4 rfl ?_
        refine L.store sc32 rfl rfl rfl qU qE ?_
        refine L.nil ?_
        refine T.thenN ?_
        refine T.seq ?_
        refine T.region ?_
        refine L.loadA rfl ag34 rfl qN ?_
        refine L.storeA ag34 rfl rfl qL qO qU qW ?_
        refine L.assign rfl rfl ?_
        refine L.nil ?_
        refine T.thenN ?_
        refine T.ret ?_
        exact T.retAT rfl ag34 rfl qN rfl ⟨(ol.eraseIdx j, ll, setL ml x.2.1 (goodM (atM ml x.2.1)), 0), _, _, _, _, _, _, _, _, _, rfl, hB.symm, hwl.symm, hll, rfl, rfl⟩ qD qF
set_option maxHeartbeats 400000 in
theorem rmiss_spec {o sq : Int} {oa la ma : Option Addr} {on oc ln lc mn mc : Nat} {ol : List Ord} {ll : List (LK × Int)} {i now : Int} (hon : on ≤ 1000) (hln : ln ≤ 1000000) (hi : i < on) (h0 : 0 ≤ now) (h9 : now ≤ 100000000) : Spec Tryz.prog 50 [.agg (xC o sq oa on oc la ln lc ma mn mc).toArray, .int .i64 i, .int .i64 now] [rsl 6 oa on oc (ol.map oR), rsl 3 la ln lc (ll.map kR)] [] (fun v D' M' => ∃ (r : List Ord × List (LK × Int)) (a1 a2 : Option Addr) (l1 c1 l2 c2 : Nat), v = .agg (xC o sq a1 l1 c1 a2 l2 c2 ma mn mc).toArray ∧ (r = rmissF ol ll i now) ∧ (r.1.length = l1) ∧ (r.2.length = l2) ∧ D' = [rsl 6 a1 l1 c1 ((r.1).map oR), rsl 3 a2 l2 c2 ((r.2).map kR)] ∧ M' = []) := by
  refine Spec.intro (n := 27) Tryz.func50 rfl rfl (by decide) (Nat.le_of_ble_eq_true rfl) rfl (fun _ => qA) (fun _ => qA) ?_
  intro σ D M
  refine T.rslLen2 (rows := ol.map oR) qM (fun hol hoc => ?_)
  rw [List.length_map] at hol
  refine T.rslLen2 (rows := ll.map kR) qM (fun hll hlc => ?_)
  rw [List.length_map] at hll
  refine T.seq ?_
  refine T.region ?_
  refine L.box rfl rfl rfl (fun b3 => ?_)
  refine L.alloc rfl ze34 (fun b6 => ?_)
  refine L.nil ?_
  refine T.thenN ?_
  refine T.seq ?_
  refine T.seq ?_
  refine T.region ?_
  refine L.move rfl rfl ?_
  refine L.ltI rfl rfl rfl ?_
  refine L.nil ?_
  refine T.thenN ?_
  refine T.cond rfl (fun h9 => ?_) (fun h9 => ?_)
  · try simp only [decide_eq_true_eq, decide_eq_false_iff_not, Bool.not_eq_true', Bool.not_eq_false', Bool.and_eq_true, Bool.or_eq_true] at h9
    have hB : rmissF ol ll i now = (ol, ll) := by unfold rmissF; rw [if_pos h9]
    refine T.seq ?_
    refine T.region ?_
    refine L.loadA rfl ag34 rfl qN ?_
    refine L.storeA ag34 rfl rfl qL qO qU qW ?_
    refine L.nil ?_
    refine T.thenN ?_
    refine T.ret ?_
    refine T.thenR ?_
    exact T.retA rfl ag34 rfl qN ⟨(ol, ll), _, _, _, _, _, _, rfl, hB.symm, hol, hll, rfl, rfl⟩ qD qF
  · try simp only [decide_eq_true_eq, decide_eq_false_iff_not, Bool.not_eq_true', Bool.not_eq_false', Bool.and_eq_true, Bool.or_eq_true] at h9
    obtain ⟨j, hj⟩ : ∃ j : Nat, i = (j : Int) := ⟨i.toNat, by omega⟩
    subst hj
    have hjt : ((j : Nat) : Int).toNat = j := rfl
    obtain ⟨x, hx⟩ : ∃ x, x = gd ol j := ⟨_, rfl⟩
    have hgj : ol[j]? = some (gd ol j) := gd_get (by omega)
    rw [← hx] at hgj
    have hgo : (ol.map oR)[j]? = some (oR x) := map_get hgj
    have hel : (ol.eraseIdx j).length = on - 1 := by rw [List.length_eraseIdx, if_pos (by omega)]; omega
    have hB : rmissF ol ll (j : Int) now = (ol.eraseIdx j, setK ll (x.2.1, x.1.2.1) (now + 12)) := by unfold rmissF; rw [if_neg h9, hjt, ← hx]
    refine T.skip ?_
    refine T.thenN ?_
    refine T.seq ?_
    refine T.region ?_
    first | refine L.field0 rfl fo34_2 rfl ?_ | refine L.field rfl fo34_2 rfl ?_
    refine L.load rfl sc30 rfl qC ?_
    refine L.move rfl rfl ?_
    refine L.idx (i := j) rfl Tryz.underlying30 sz47 rfl rfl qM (by first | rfl | omega | (simp; done)) qG (fun b14 o14 => ?_)
    refine L.loadA rfl ag47 rfl qN ?_
    refine L.alloc rfl ze47 (fun b7 => ?_)
    refine L.storeA ag47 rfl rfl qL qO qU qW ?_
    refine L.nil ?_
    refine T.thenN ?_
    refine T.seq ?_
    refine T.freeze (A := cl b7 47 (oR x)) qP ?_
    refine T.regionA (clsL [2, 1, 2, 1, 1, 1, 1, 1, 1, 1, 2, 2]) (by kernel_rfl) ?_
    refine A.takeP (i := 1) rfl rfl rfl rfl (by kernel_rfl) (by kernel_rfl) (by kernel_rfl) rfl qD ?_
    refine L.move rfl rfl ?_
    refine A.took ?_
    refine A.takeP (i := 3) rfl rfl rfl rfl (by kernel_rfl) (by kernel_rfl) (by kernel_rfl) rfl qD ?_
    first | refine L.field0 rfl fo47_1 rfl ?_ | refine L.field rfl fo47_1 rfl ?_
    refine A.took ?_
    refine A.takeP (i := 4) rfl rfl rfl rfl (by kernel_rfl) (by kernel_rfl) (by kernel_rfl) rfl qD ?_
    refine L.load rfl sc3 rfl qC ?_
    refine A.took ?_
    refine A.takeP (i := 5) rfl rfl rfl rfl (by kernel_rfl) (by kernel_rfl) (by kernel_rfl) rfl qD ?_
    first | refine L.field0 rfl fo47_0 rfl ?_ | refine L.field rfl fo47_0 rfl ?_
    refine A.took ?_
    refine A.takeP (i := 6) rfl rfl rfl rfl (by kernel_rfl) (by kernel_rfl) (by kernel_rfl) rfl qD ?_
    first | refine L.field0 rfl fo45_1 rfl ?_ | refine L.field rfl fo45_1 rfl ?_
    refine A.took ?_
    refine A.takeP (i := 7) rfl rfl rfl rfl (by kernel_rfl) (by kernel_rfl) (by kernel_rfl) rfl qD ?_
    refine L.load rfl sc9 rfl qC ?_
    refine A.took ?_
    refine A.takeP (i := 8) rfl rfl rfl rfl (by kernel_rfl) (by kernel_rfl) (by kernel_rfl) rfl qD ?_
    refine L.move rfl rfl ?_
    refine A.took ?_
    refine A.takeP (i := 9) rfl rfl rfl rfl (by kernel_rfl) (by kernel_rfl) (by kernel_rfl) rfl qD ?_
    refine L.addN rfl rfl rfl (by omega) ?_
    refine A.took ?_
    refine A.branch (is := [0]) (by kernel_rfl) (by decide) (Each.cons rfl ?_ <| Each.nil) 
    refine L.loadA rfl ag34 rfl qN ?_
    refine A.backT rfl qD ?_
    refine A.branch (is := [2]) (by kernel_rfl) (by decide) (Each.cons rfl ?_ <| Each.nil) 
    refine L.call rfl (evs.cons rfl <| evs.cons rfl <| evs.nil) qD qS (rwithout_spec (ol := ol) (i := j) (by omega) (by omega)) ?_
    rintro _ _ _ ⟨wa, wl, wc, rfl, hwl, rfl, rfl⟩
    refine L.norm qA qA ?_
    refine A.backT rfl qD ?_
    refine A.branch (is := [10]) (by kernel_rfl) (by decide) (Each.cons rfl ?_ <| Each.nil) 
    refine L.call rfl (evs.cons rfl <| evs.cons rfl <| evs.cons rfl <| evs.cons rfl <| evs.nil) qD qS (rlack_spec (ll := ll) (n := x.2.1) (id := x.1.2.1) (u := now + 12) hln) ?_
    rintro _ _ _ ⟨ka, kl, kc, rfl, hkl, rfl, rfl⟩
    refine L.norm qA qA ?_
    refine A.backT rfl qD ?_
    refine A.branch (is := [11]) (by kernel_rfl) (by decide) (Each.cons rfl ?_ <| Each.nil) 
    refine L.storeA ag34 rfl rfl qL qO qU qW ?_
    refine A.backT rfl qD ?_
    refine A.done (by kernel_rfl) ?_
    refine T.thenN ?_
    refine T.ret ?_
    exact T.retA rfl ag34 rfl qN ⟨(ol.eraseIdx j, setK ll (x.2.1, x.1.2.1) (now + 12)), _, _, _, _, _, _, rfl, hB.symm, hwl.symm, hkl.symm, rfl, rfl⟩ qD qF
end Cv
