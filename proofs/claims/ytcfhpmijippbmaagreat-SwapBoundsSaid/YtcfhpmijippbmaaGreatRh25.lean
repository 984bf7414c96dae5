/-
  The walks: answers.
-/
import Derived.Test.YtcfhpmijippbmaaGreatRg25
import Derived.Test.YtcfhpmijippbmaaGreatCvLd
import Derived.Test.YtcfhpmijippbmaaGreatProg
import Derived.KernelRfl
set_option linter.unusedVariables false
set_option linter.unusedSimpArgs false
set_option linter.unusedSectionVars false
set_option maxRecDepth 10000
namespace Cv
open Go Go.Proofs
abbrev SL := Option Addr × Nat × Nat × List Int
@[reducible] def slE (z : SL) : List Value := [.slice z.1 z.2.1 z.2.2.1]
abbrev AR25 := (Int × Int × Int) × SL × SL × List UInt8
@[reducible] def aE (z : AR25) : List Value := [.int .i64 z.1.1, .int .i64 z.1.2.1, .int .i64 z.1.2.2, .slice z.2.1.1 z.2.1.2.1 z.2.1.2.2.1, .slice z.2.2.1.1 z.2.2.1.2.1 z.2.2.1.2.2.1, S z.2.2.2]
@[reducible] def stC (b : Nat) (o sq : Int) (oa : Option Addr) (on oc : Nat) (la : Option Addr) (ln lc : Nat) (ma : Option Addr) (mn mc : Nat) (now : Int) : List Value := [.pointer (some ⟨b, 0, none⟩), .int .i64 o, .int .i64 sq, .slice oa on oc, .slice la ln lc, .slice ma mn mc, .int .i64 now]
theorem tk_set {l : List UInt8} (h : l.length = 32) : SetAt ((List.replicate 32 (0 : UInt8)).map Y) 0 ((l.take 32).map Y) (l.map Y) := by
  rw [List.take_of_length_le (by omega)]
  exact SetAt.whole (by simp [h])
def zI : ID32 := ⟨z32, rfl⟩
abbrev Ans := Int × Int × ID32 × Int × Int
def ansF (ol : List Ord) (n b : Int) : Ans :=
  if ol = [] then (2, 1, zI, 1, -1) else
  if b = 1 then (((gd ol ((n.tmod ol.length + ol.length).tmod ol.length).toNat).2.1 + 1) % (15 + 1), (gd ol ((n.tmod ol.length + ol.length).tmod ol.length).toNat).2.2.1, (gd ol ((n.tmod ol.length + ol.length).tmod ol.length).toNat).1.2.1, (gd ol ((n.tmod ol.length + ol.length).tmod ol.length).toNat).1.1, -1) else
  if b = 2 then ((gd ol ((n.tmod ol.length + ol.length).tmod ol.length).toNat).2.1, (gd ol ((n.tmod ol.length + ol.length).tmod ol.length).toNat).2.2.1 + 1, (gd ol ((n.tmod ol.length + ol.length).tmod ol.length).toNat).1.2.1, (gd ol ((n.tmod ol.length + ol.length).tmod ol.length).toNat).1.1, -1) else
  ((gd ol ((n.tmod ol.length + ol.length).tmod ol.length).toNat).2.1, (gd ol ((n.tmod ol.length + ol.length).tmod ol.length).toNat).2.2.1, (gd ol ((n.tmod ol.length + ol.length).tmod ol.length).toNat).1.2.1, (gd ol ((n.tmod ol.length + ol.length).tmod ol.length).toNat).1.1, (n.tmod ol.length + ol.length).tmod ol.length)
theorem tmod_bd (n : Int) {k : Int} (h : 0 < k) : -k < n.tmod k ∧ n.tmod k < k := by
  have h1 := Int.tmod_lt_of_pos n h
  have h2 := Int.tmod_lt_of_pos (-n) h
  rw [Int.neg_tmod] at h2
  omega
theorem pick_at {ol : List Ord} {n : Int} (h : 0 < ol.length) : ∃ j : Nat, j < ol.length ∧ (n.tmod ol.length + ol.length).tmod ol.length = (j : Int) := by
  have hk : (0 : Int) < ol.length := by omega
  have h1 := tmod_bd n hk
  have h2 := Int.tmod_nonneg (ol.length : Int) (show 0 ≤ n.tmod ol.length + ol.length by omega)
  have h3 := Int.tmod_lt_of_pos (n.tmod ol.length + ol.length) hk
  exact ⟨((n.tmod ol.length + ol.length).tmod ol.length).toNat, by omega, by omega⟩
theorem ans_at {ol : List Ord} {n b : Int} {j : Nat} {x : Ord} (h : 0 < ol.length) (hj : (n.tmod ol.length + ol.length).tmod ol.length = (j : Int)) (hx : x = gd ol j) : ansF ol n b = if b = 1 then ((x.2.1 + 1) % (15 + 1), x.2.2.1, x.1.2.1, x.1.1, -1) else if b = 2 then (x.2.1, x.2.2.1 + 1, x.1.2.1, x.1.1, -1) else (x.2.1, x.2.2.1, x.1.2.1, x.1.1, (j : Int)) := by
  unfold ansF
  rw [if_neg (by intro e; rw [e] at h; exact absurd h (by decide)), hj, show ((j : Nat) : Int).toNat = j from rfl, ← hx]
theorem fo36_1 : Fo Tryz.prog 36 1 1 := fun a w => by kernel_rfl
theorem fo41_1 : Fo Tryz.prog 41 1 1 := fun a w => by kernel_rfl
theorem fo47_2 : Fo Tryz.prog 47 2 4 := fun a w => by kernel_rfl
theorem fo41_2 : Fo Tryz.prog 41 2 2 := fun a w => by kernel_rfl
set_option maxHeartbeats 400000 in
theorem otake_spec {l : List UInt8} (hl : l.length = 32) : Spec Tryz.prog 69 [S l] [] [] (fun v D' M' => v = .tuple #[.agg (l.map Y).toArray, .int .i64 0] ∧ D' = [] ∧ M' = []) := by
  refine Spec.intro (n := 13) Tryz.func69 rfl rfl (by decide) (Nat.le_of_ble_eq_true rfl) rfl (fun _ => qA) (fun _ => qA) ?_
  intro σ D M
  have hlm : (l.map Y).length = 32 := by rw [List.length_map]; exact hl
  refine T.seq ?_
  refine T.region ?_
  refine L.alloc rfl ze50 (fun b2 => ?_)
  refine L.assign rfl rfl ?_
  refine L.nil ?_
  refine T.thenN ?_
  refine T.seq ?_
  refine T.region ?_
  refine L.alloc rfl ze50 (fun b4 => ?_)
  refine L.nil ?_
  refine T.thenN ?_
  refine T.seq ?_
  refine T.seq ?_
  refine T.region ?_
  refine L.move rfl rfl ?_
  refine L.lenStr rfl Tryz.underlying9 rfl ?_
  refine L.neI rfl rfl rfl ?_
  refine L.nil ?_
  refine T.thenN ?_
  refine T.condF rfl (decide_eq_false (by omega)) ?_
  refine T.skip ?_
  refine T.thenN ?_
  refine T.seq ?_
  refine T.region ?_
  refine L.sliceArr rfl Tryz.underlying50 sz5 rfl Bd.no Bd.no qI qI ?_
  refine L.known (t := 9) (u := .slice (some ⟨b4, 0, none⟩) 32 32) rfl (by first | rfl | simp [cutA, Addr.add]) ?_
  refine L.move rfl rfl ?_
  refine L.copyStr rfl Tryz.underlying97 sz5 rfl rfl (show Nat.min l.length 32 = 32 by rw [hl]; rfl) qU (tk_set hl) ?_
  refine L.nil ?_
  refine T.thenN ?_
  refine T.seq ?_
  refine T.region ?_
  refine L.loadA rfl ag50 rfl qN ?_
  refine L.storeA ag50 rfl rfl qL qO qU qW ?_
  refine L.assign rfl rfl ?_
  refine L.nil ?_
  refine T.thenN ?_
  refine T.ret ?_
  exact T.retAT rfl ag50 rfl qN rfl ⟨rfl, rfl, rfl⟩ qD qF
set_option maxHeartbeats 400000 in
theorem answer_spec {b : Nat} {now : Int} {o sq : Int} {oa la ma : Option Addr} {on oc ln lc mn mc : Nat} {ol : List Ord} {z : AR25} {kd : Int} (hon : on ≤ 1000) (hsq : ∀ x ∈ ol, 0 ≤ x.2.1 ∧ x.2.1 ≤ 15 ∧ 0 ≤ x.2.2.1 ∧ x.2.2.1 ≤ 1000000) : Spec Tryz.prog 48 [.agg (stC b o sq oa on oc la ln lc ma mn mc now).toArray, .agg (aE z).toArray, .int .i64 kd] [rsl 6 oa on oc (ol.map oR)] [] (fun v D' M' => ∃ (r : Ans), v = .tuple #[.agg (letV kd r.1 1 r.2.1 r.2.2.1.1 r.2.2.2.1 [] none 0 0 none 0 0).toArray, .int .i64 r.2.2.2.2] ∧ (r = ansF ol z.1.2.1 z.1.2.2) ∧ D' = [] ∧ M' = []) := by
  refine Spec.intro (n := 79) Tryz.func48 rfl rfl (by decide) (Nat.le_of_ble_eq_true rfl) rfl (fun _ => qA) (fun _ => qA) ?_
  intro σ D M
  refine T.rslLen2 (rows := ol.map oR) qM (fun hol hoc => ?_)
  rw [List.length_map] at hol
  have hz32 : z32.length = 32 := rfl
  have hzl := @letV_len kd 2 1 1 1 z32 [] none none 0 0 0 0 hz32
  refine T.seq ?_
  refine T.region ?_
  refine L.box rfl rfl rfl (fun b3 => ?_)
  refine L.box rfl rfl rfl (fun b4 => ?_)
  refine L.alloc rfl ze77 (fun b6 => ?_)
  refine L.assign rfl rfl ?_
  refine L.nil ?_
  refine T.thenN ?_
  refine T.seq ?_
  refine T.seq ?_
  refine T.region ?_
  first | refine L.field0 rfl fo36_1 rfl ?_ | refine L.field rfl fo36_1 rfl ?_
  first | refine L.field0 rfl fo34_2 rfl ?_ | refine L.field rfl fo34_2 rfl ?_
  refine L.load rfl sc30 rfl qC ?_
  refine L.lenSl rfl Tryz.underlying30 rfl ?_
  refine L.eqI rfl rfl rfl ?_
  refine L.nil ?_
  refine T.thenN ?_
  refine T.cond rfl (fun h17 => ?_) (fun h17 => ?_)
  · try simp only [decide_eq_true_eq, decide_eq_false_iff_not, Bool.not_eq_true', Bool.not_eq_false', Bool.and_eq_true, Bool.or_eq_true] at h17
    have hnil : ol = [] := List.length_eq_zero_iff.1 (by omega)
    have hB : ansF ol z.1.2.1 z.1.2.2 = (2, 1, zI, 1, -1) := by rw [hnil]; rfl
    refine T.seq ?_
    refine T.region ?_
    refine L.move rfl rfl ?_
    refine L.build rfl bu77 (BP.one rfl rfl rfl <| BP.one rfl rfl rfl <| BP.one rfl rfl rfl <| BP.one rfl rfl rfl <| BP.skip <| BP.skip <| BP.skip <| BP.skip <| BP.skip <| BP.skip <| BP.skip <| BP.skip <| BP.skip <| BP.skip <| BP.skip <| BP.skip <| BP.skip <| BP.skip <| BP.skip <| BP.skip <| BP.skip <| BP.skip <| BP.skip <| BP.skip <| BP.skip <| BP.skip <| BP.skip <| BP.skip <| BP.skip <| BP.skip <| BP.skip <| BP.skip <| BP.skip <| BP.skip <| BP.skip <| BP.skip <| BP.one rfl rfl rfl <| BP.doneE (out := [S [], Value.slice none 0 0, Value.slice none 0 0]) rfl) ?_
    refine L.known (t := 19) (u := .agg (letV kd 2 1 1 z32 1 [] none 0 0 none 0 0).toArray) rfl (by rfl) ?_
    refine L.storeA ag77 rfl rfl qL qO qU qW ?_
    refine L.assign rfl rfl ?_
    refine L.nil ?_
    refine T.thenN ?_
    refine T.ret ?_
    refine T.thenR ?_
    exact T.retAT rfl ag77 rfl qN rfl ⟨(2, 1, zI, 1, -1), rfl, hB.symm, rfl, rfl⟩ qD qF
  · try simp only [decide_eq_true_eq, decide_eq_false_iff_not, Bool.not_eq_true', Bool.not_eq_false', Bool.and_eq_true, Bool.or_eq_true] at h17
    have hne : 0 < ol.length := by omega
    obtain ⟨j, hjl, hj⟩ := pick_at (n := z.1.2.1) hne
    rw [hol] at hj
    have htb := tmod_bd z.1.2.1 (k := (on : Int)) (by omega)
    have hgi : ol[j]? = some (gd ol j) := gd_get (by omega)
    obtain ⟨x, hx_⟩ : ∃ x, x = gd ol j := ⟨_, rfl⟩
    rw [← hx_] at hgi
    have hgo : (ol.map oR)[j]? = some (oR x) := map_get hgi
    have hx32 := x.1.2.1.2
    obtain ⟨hx1, hx2, hx3, hx4⟩ := hsq x (List.mem_of_getElem? hgi)
    have hAn := ans_at (b := z.1.2.2) hne (by rw [hol]; exact hj) hx_
    refine T.skip ?_
    refine T.thenN ?_
    refine T.seq ?_
    refine T.regionQ (by kernel_rfl) (by kernel_rfl) ?_
    first | refine L.field0 rfl fo41_1 rfl ?_ | refine L.field rfl fo41_1 rfl ?_
    refine L.load rfl sc3 rfl qC ?_
    first | refine L.field0 rfl fo36_1 rfl ?_ | refine L.field rfl fo36_1 rfl ?_
    first | refine L.field0 rfl fo34_2 rfl ?_ | refine L.field rfl fo34_2 rfl ?_
    refine L.load rfl sc30 rfl qC ?_
    refine L.lenSl rfl Tryz.underlying30 rfl ?_
    refine L.remI rfl rfl rfl (by omega) ?_
    first | refine L.field0 rfl fo36_1 rfl ?_ | refine L.field rfl fo36_1 rfl ?_
    first | refine L.field0 rfl fo34_2 rfl ?_ | refine L.field rfl fo34_2 rfl ?_
    refine L.load rfl sc30 rfl qC ?_
    refine L.lenSl rfl Tryz.underlying30 rfl ?_
    refine L.addN rfl rfl rfl (by omega) ?_
    first | refine L.field0 rfl fo36_1 rfl ?_ | refine L.field rfl fo36_1 rfl ?_
    first | refine L.field0 rfl fo34_2 rfl ?_ | refine L.field rfl fo34_2 rfl ?_
    refine L.load rfl sc30 rfl qC ?_
    refine L.lenSl rfl Tryz.underlying30 rfl ?_
    refine L.remI rfl rfl rfl (by omega) ?_
    refine L.known (t := 36) (u := .int .i64 (j : Int)) rfl (by rw [← hj]) ?_
    refine L.assign rfl rfl ?_
    refine L.nilQ ?_
    refine T.thenN ?_
    refine T.seq ?_
    refine T.region ?_
    first | refine L.field0 rfl fo36_1 rfl ?_ | refine L.field rfl fo36_1 rfl ?_
    first | refine L.field0 rfl fo34_2 rfl ?_ | refine L.field rfl fo34_2 rfl ?_
    refine L.load rfl sc30 rfl qC ?_
    refine L.move rfl rfl ?_
    refine L.idx (i := j) rfl Tryz.underlying30 sz47 rfl rfl qM (by first | rfl | omega | (simp; done)) qG (fun b41 o41 => ?_)
    refine L.loadA rfl ag47 rfl qN ?_
    refine L.alloc rfl ze47 (fun b9 => ?_)
    refine L.storeA ag47 rfl rfl qL qO qU qW ?_
    refine L.nil ?_
    refine T.thenN ?_
    refine T.seq ?_
    refine T.region ?_
    first | refine L.field0 rfl fo47_0 rfl ?_ | refine L.field rfl fo47_0 rfl ?_
    first | refine L.field0 rfl fo45_1 rfl ?_ | refine L.field rfl fo45_1 rfl ?_
    refine L.load rfl sc9 rfl qC ?_
    refine L.callF rfl (evs.cons rfl <| evs.nil) qD qS (otake_spec hx32) (by rintro u D1 M1 ⟨rfl, rfl, rfl⟩; exact ⟨rfl, _, qA, qF⟩) ?_
    refine L.move rfl rfl ?_
    refine L.extract rfl rfl rfl ?_
    refine L.extract rfl rfl rfl ?_
    refine L.alloc rfl ze50 (fun b10 => ?_)
    refine L.storeA ag50 rfl rfl qL qO qU qW ?_
    refine L.assign rfl rfl ?_
    refine L.nil ?_
    refine T.thenN ?_
    refine T.seq ?_
    refine T.region ?_
    refine L.move rfl rfl ?_
    first | refine L.field0 rfl fo47_1 rfl ?_ | refine L.field rfl fo47_1 rfl ?_
    refine L.load rfl sc3 rfl qC ?_
    first | refine L.field0 rfl fo47_2 rfl ?_ | refine L.field rfl fo47_2 rfl ?_
    refine L.load rfl sc3 rfl qC ?_
    refine L.loadA rfl ag50 rfl qN ?_
    first | refine L.field0 rfl fo47_0 rfl ?_ | refine L.field rfl fo47_0 rfl ?_
    first | refine L.field0 rfl fo45_0 rfl ?_ | refine L.field rfl fo45_0 rfl ?_
    refine L.load rfl sc3 rfl qC ?_
    refine L.build rfl bu77 (BP.one rfl rfl rfl <| BP.one rfl rfl rfl <| BP.one rfl rfl rfl <| BP.one rfl rfl rfl <| BP.agg rfl rfl (by first | with_reducible assumption | (simp; done) | (simp only [List.length_map]; with_reducible assumption) | (simp [*]; done) | rfl) (Nat.le_of_ble_eq_true rfl) qR <| BP.one rfl rfl rfl <| BP.doneE (out := [S [], Value.slice none 0 0, Value.slice none 0 0]) rfl) ?_
    refine L.known (t := 59) (u := .agg (letV kd x.2.1 1 x.2.2.1 x.1.2.1.1 x.1.1 [] none 0 0 none 0 0).toArray) rfl (by first | rfl | simp [letV]) ?_
    have hll := @letV_len kd x.2.1 1 x.2.2.1 x.1.1 x.1.2.1.1 [] none none 0 0 0 0 hx32
    refine L.alloc rfl ze77 (fun b12 => ?_)
    refine L.storeA ag77 rfl rfl qL qO qU qW ?_
    refine L.nil ?_
    refine T.thenN ?_
    refine T.seq ?_
    refine T.seq ?_
    refine T.region ?_
    first | refine L.field0 rfl fo41_2 rfl ?_ | refine L.field rfl fo41_2 rfl ?_
    refine L.load rfl sc3 rfl qC ?_
    refine L.nil ?_
    refine T.thenN ?_
    refine T.block ?_
    refine T.seq ?_
    refine T.region ?_
    refine L.eqI rfl rfl rfl ?_
    refine L.assign rfl rfl ?_
    refine L.nil ?_
    refine T.thenN ?_
    refine T.cond rfl (fun h62 => ?_) (fun h62 => ?_)
    · try simp only [decide_eq_true_eq, decide_eq_false_iff_not, Bool.not_eq_true', Bool.not_eq_false', Bool.and_eq_true, Bool.or_eq_true] at h62
      have hB : ansF ol z.1.2.1 z.1.2.2 = ((x.2.1 + 1) % (15 + 1), x.2.2.1, x.1.2.1, x.1.1, -1) := by rw [hAn, if_pos h62]
      refine T.seq ?_
      refine T.region ?_
      first | refine L.field0 rfl fo77_1 rfl ?_ | refine L.field rfl fo77_1 rfl ?_
      refine L.load rfl sc3 rfl qC ?_
      refine L.addN rfl rfl rfl (by omega) ?_
      refine L.andM rfl rfl rfl (k := 4) (by decide) (by decide) ?_
      first | refine L.field0 rfl fo77_1 rfl ?_ | refine L.field rfl fo77_1 rfl ?_
      refine L.store sc3 rfl rfl rfl qU qE ?_
      refine L.nil ?_
      refine T.thenN ?_
      refine T.seq ?_
      refine T.region ?_
      refine L.loadA rfl ag77 rfl qN ?_
      refine L.storeA ag77 rfl rfl qL qO qU qW ?_
      refine L.assign rfl rfl ?_
      refine L.nil ?_
      refine T.thenN ?_
      refine T.ret ?_
      refine T.blkR ?_
      refine T.thenR ?_
      exact T.retAT rfl ag77 rfl qN rfl ⟨((x.2.1 + 1) % (15 + 1), x.2.2.1, x.1.2.1, x.1.1, -1), rfl, hB.symm, rfl, rfl⟩ qD qF
    · try simp only [decide_eq_true_eq, decide_eq_false_iff_not, Bool.not_eq_true', Bool.not_eq_false', Bool.and_eq_true, Bool.or_eq_true] at h62
      refine T.seq ?_
      refine T.region ?_
      refine L.eqI rfl rfl rfl ?_
      refine L.assign rfl rfl ?_
      refine L.nil ?_
      refine T.thenN ?_
      refine T.cond rfl (fun h70 => ?_) (fun h70 => ?_)
      · try simp only [decide_eq_true_eq, decide_eq_false_iff_not, Bool.not_eq_true', Bool.not_eq_false', Bool.and_eq_true, Bool.or_eq_true] at h70
        have hB : ansF ol z.1.2.1 z.1.2.2 = (x.2.1, x.2.2.1 + 1, x.1.2.1, x.1.1, -1) := by rw [hAn, if_neg h62, if_pos h70]
        refine T.seq ?_
        refine T.region ?_
        first | refine L.field0 rfl fo77_3 rfl ?_ | refine L.field rfl fo77_3 rfl ?_
        refine L.load rfl sc3 rfl qC ?_
        refine L.addN rfl rfl rfl (by omega) ?_
        first | refine L.field0 rfl fo77_3 rfl ?_ | refine L.field rfl fo77_3 rfl ?_
        refine L.store sc3 rfl rfl rfl qU qE ?_
        refine L.nil ?_
        refine T.thenN ?_
        refine T.seq ?_
        refine T.region ?_
        refine L.loadA rfl ag77 rfl qN ?_
        refine L.storeA ag77 rfl rfl qL qO qU qW ?_
        refine L.assign rfl rfl ?_
        refine L.nil ?_
        refine T.thenN ?_
        refine T.ret ?_
        refine T.blkR ?_
        refine T.thenR ?_
        exact T.retAT rfl ag77 rfl qN rfl ⟨(x.2.1, x.2.2.1 + 1, x.1.2.1, x.1.1, -1), rfl, hB.symm, rfl, rfl⟩ qD qF
      · try simp only [decide_eq_true_eq, decide_eq_false_iff_not, Bool.not_eq_true', Bool.not_eq_false', Bool.and_eq_true, Bool.or_eq_true] at h70
        have hB : ansF ol z.1.2.1 z.1.2.2 = (x.2.1, x.2.2.1, x.1.2.1, x.1.1, (j : Int)) := by rw [hAn, if_neg h62, if_neg h70]
        refine T.skip ?_
        refine T.blkN ?_
        refine T.thenN ?_
        refine T.seq ?_
        refine T.region ?_
        refine L.loadA rfl ag77 rfl qN ?_
        refine L.move rfl rfl ?_
        refine L.storeA ag77 rfl rfl qL qO qU qW ?_
        refine L.assign rfl rfl ?_
        refine L.nil ?_
        refine T.thenN ?_
        refine T.ret ?_
        exact T.retAT rfl ag77 rfl qN rfl ⟨(x.2.1, x.2.2.1, x.1.2.1, x.1.1, (j : Int)), rfl, hB.symm, rfl, rfl⟩ qD qF
end Cv
