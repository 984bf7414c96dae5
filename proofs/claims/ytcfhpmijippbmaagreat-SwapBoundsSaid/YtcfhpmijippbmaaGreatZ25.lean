/-
  The walks: answers.
-/
import Derived.Test.YtcfhpmijippbmaaGreatY25
import Derived.Test.YtcfhpmijippbmaaGreatProg
import Derived.KernelRfl
set_option linter.unusedVariables false
set_option linter.unusedSimpArgs false
set_option linter.unusedSectionVars false
set_option maxRecDepth 10000
namespace Cv
open Go Go.Proofs
theorem fo77_0 : Fo Tryz.prog 77 0 0 := fun a w => by kernel_rfl
theorem fo77_6 : Fo Tryz.prog 77 6 37 := fun a w => by kernel_rfl
theorem fo52_2 : Fo Tryz.prog 52 2 33 := fun a w => by kernel_rfl
set_option maxHeartbeats 400000 in
theorem blk_spec {b bb q on oc lm : Nat} {o sq : Int} {oa : Option Addr} {ol : List Ord} {F : Int → Mind} {lk : List (LK × Int)} {fr to_ sq_ what : Int} {id : ID32} {tx : List UInt8} {pa ha : Option Addr} {pl pc hl hc : Nat} {now : Int} (hon : on ≤ 1000000) (h0 : 0 ≤ now) (h9 : now ≤ 100000000) (htx : tx.length ≤ 35184372088832) : Spec Tryz.prog 23 [.pointer (some ⟨b, 0, none⟩), .agg (letV 8 fr to_ sq_ id.1 what tx pa pl pc ha hl hc).toArray, .int .i64 now] [] [cl b 59 (swC bb q o oa on oc lm sq), own 37 96 oa on oc ((ol).map oC), bookA bb F, mp lm lkK iK lk] (fun v D' M' => ∃ (r : BlkR) (oa2 : Option Addr) (on2 oc2 : Nat), v = .tuple #[.agg (pcells r.1).toArray, .int .i64 r.2.1] ∧ (r = blkF F ol lk fr sq_ id what tx now) ∧ (r.2.2.1.length = on2) ∧ D' = [] ∧ M' = [cl b 59 (swC bb q o oa2 on2 oc2 lm sq), own 37 96 oa2 on2 oc2 ((r.2.2.1).map oC), bookA bb r.2.2.2.1, mp lm lkK iK r.2.2.2.2]) := by
  refine Spec.intro (n := 90) Tryz.func23 rfl rfl (by decide) (Nat.le_of_ble_eq_true rfl) rfl (fun _ => qA) (fun _ => qA) ?_
  intro σ D M
  have hi32 := id.2
  have hll := @letV_len 8 fr to_ sq_ what id.1 tx pa ha pl pc hl hc hi32
  have hz34 : (pcells zP).length = 34 := by rfl
  refine T.ownLen (rows := ol.map oC) qM (fun hLl hLc => ?_)
  rw [List.length_map] at hLl
  refine T.seq ?_
  refine T.region ?_
  refine L.box rfl rfl rfl (fun b4 => ?_)
  refine L.alloc rfl ze81 (fun b6 => ?_)
  refine L.assign rfl rfl ?_
  refine L.nil ?_
  refine T.thenN ?_
  refine T.seq ?_
  refine T.region ?_
  refine L.move rfl rfl ?_
  refine L.loadA rfl ag77 rfl qN ?_
  refine L.call rfl (evs.cons rfl <| evs.cons rfl <| evs.nil) qD qS (match_spec (F := F) (lk := lk) hon) ?_
  rintro _ _ _ ⟨rfl, rfl, rfl⟩
  refine L.norm qA qA ?_
  refine L.assign rfl rfl ?_
  refine L.nil ?_
  refine T.thenN ?_
  refine T.seq ?_
  refine T.seq ?_
  rcases Decidable.em (idxQ (mB fr sq_ id.1 what) ol < 0) with h1 | h1
  · skip
    have hB : blkF F ol lk fr sq_ id what tx now = (zP, 7, ol, F, lk) := by unfold blkF; rw [if_pos h1]
    refine T.region ?_
    refine L.move rfl rfl ?_
    refine L.ltI rfl rfl rfl ?_
    refine L.move rfl rfl ?_
    refine L.known (t := 16) rfl (show _ = Value.bool true from congrArg Value.bool (decide_eq_true h1)) ?_
    refine L.guardF (dj := 16) (c := true) rfl rfl rfl rfl rfl (by decide) ?_
    refine L.guardF (dj := 16) (c := true) rfl rfl rfl rfl rfl (by decide) ?_
    refine L.guardF (dj := 16) (c := true) rfl rfl rfl rfl rfl (by decide) ?_
    refine L.pickT rfl rfl rfl ?_
    refine L.nil ?_
    refine T.thenN ?_
    refine T.condT rfl rfl ?_
    refine T.seq ?_
    refine T.region ?_
    refine L.build rfl bu81 (BP.doneE (out := (Value.int .i64 0 :: Value.int .u8 0 :: Value.int .u8 0 :: Value.int .u8 0 :: Value.int .u8 0 :: Value.int .u8 0 :: Value.int .u8 0 :: Value.int .u8 0 :: Value.int .u8 0 :: Value.int .u8 0 :: Value.int .u8 0 :: Value.int .u8 0 :: Value.int .u8 0 :: Value.int .u8 0 :: Value.int .u8 0 :: Value.int .u8 0 :: Value.int .u8 0 :: Value.int .u8 0 :: Value.int .u8 0 :: Value.int .u8 0 :: Value.int .u8 0 :: Value.int .u8 0 :: Value.int .u8 0 :: Value.int .u8 0 :: Value.int .u8 0 :: Value.int .u8 0 :: Value.int .u8 0 :: Value.int .u8 0 :: Value.int .u8 0 :: Value.int .u8 0 :: Value.int .u8 0 :: Value.int .u8 0 :: Value.int .u8 0 :: S [] :: [])) rfl) ?_
    refine L.known (t := 21) (u := .agg (pcells zP).toArray) rfl (by rfl) ?_
    refine L.storeA ag81 rfl rfl qL qO qU qW ?_
    refine L.assign rfl rfl ?_
    refine L.nil ?_
    refine T.thenN ?_
    refine T.ret ?_
    refine T.thenR ?_
    exact T.retAT rfl ag81 rfl qN rfl ⟨(zP, 7, ol, F, lk), _, _, _, rfl, hB.symm, hLl, rfl, rfl⟩ qD qF
  · skip
    obtain ⟨i, hie, hil⟩ := idxQ_nat h1
    have hgi : ol[i]? = some (gd ol i) := gd_get (by omega)
    obtain ⟨x, hx_⟩ : ∃ x, x = gd ol i := ⟨_, rfl⟩
    rw [← hx_] at hgi
    have hxl := oC_len x
    have hx32 := x.1.2.1.2
    have hit : (idxQ (mB fr sq_ id.1 what) ol).toNat = i := by omega
    refine T.region ?_
    refine L.move rfl rfl ?_
    refine L.ltI rfl rfl rfl ?_
    refine L.move rfl rfl ?_
    refine L.known (t := 16) rfl (show _ = Value.bool false from congrArg Value.bool (decide_eq_false h1)) ?_
    refine L.guardT (dj := 16) rfl rfl rfl ?_
    first | refine L.field0 rfl fo77_0 rfl ?_ | refine L.field rfl fo77_0 rfl ?_
    refine L.guardT (dj := 16) rfl rfl rfl ?_
    refine L.load rfl sc3 rfl qC ?_
    refine L.guardT (dj := 16) rfl rfl rfl ?_
    refine L.neI rfl rfl rfl ?_
    refine L.pickF rfl rfl rfl ?_
    refine L.nil ?_
    refine T.thenN ?_
    refine T.condF rfl rfl ?_
    refine T.skip ?_
    refine T.thenN ?_
    refine T.seq ?_
    rw [hie]
    refine T.ownNe (a := oa) qM (by omega) (fun pb po ha_ => ?_)
    subst ha_
    refine T.region ?_
    refine L.move rfl rfl ?_
    refine L.nilCheck rfl rfl ?_
    first | refine L.field0 rfl fo59_3 rfl ?_ | refine L.field rfl fo59_3 rfl ?_
    refine L.load rfl sc56 rfl qC ?_
    refine L.move rfl rfl ?_
    refine L.idxG (i := i) rfl Tryz.underlying56 sz96 rfl rfl (by first | rfl | omega | (simp; done)) qI ?_
    refine L.loadA rfl ag96 rfl (CellsN.ofOwn qM (map_get hgi) (oC_len _)) ?_
    refine L.alloc rfl ze96 (fun b9 => ?_)
    refine L.storeA ag96 rfl rfl qL qO qU qW ?_
    refine L.nil ?_
    refine T.thenN ?_
    refine T.seq ?_
    refine T.region ?_
    refine L.move rfl rfl ?_
    refine L.move rfl rfl ?_
    refine L.nilCheck rfl rfl ?_
    first | refine L.field0 rfl fo59_3 rfl ?_ | refine L.field rfl fo59_3 rfl ?_
    refine L.load rfl sc56 rfl qC ?_
    refine L.move rfl rfl ?_
    refine L.move rfl rfl ?_
    refine L.addN rfl rfl rfl (by omega) ?_
    refine L.known (t := 36) (u := .int .i64 ((i + 1 : Nat) : Int)) rfl (by rfl) ?_
    refine L.call rfl (evs.cons rfl <| evs.cons rfl <| evs.cons rfl <| evs.nil) qD qS (dele_spec (i := i) (xs := ol) (by omega) (by omega)) ?_
    rintro _ _ _ ⟨rfl, rfl, rfl⟩
    refine L.norm qA qA ?_
    refine L.nilCheck rfl rfl ?_
    first | refine L.field0 rfl fo59_3 rfl ?_ | refine L.field rfl fo59_3 rfl ?_
    refine L.store sc56 rfl rfl rfl qU qE ?_
    refine L.nil ?_
    refine T.thenN ?_
    refine T.seq ?_
    refine T.seq ?_
    refine T.regionA (clsL [1, 0, 1, 0, 1, 0, 1, 0, 1, 0, 1, 0, 1, 2, 1]) (by kernel_rfl) ?_
    refine A.takeP (i := 0) rfl rfl rfl rfl (by kernel_rfl) (by kernel_rfl) (by kernel_rfl) rfl qD ?_
    refine L.move rfl rfl ?_
    refine A.took ?_
    refine A.takeP (i := 4) rfl rfl rfl rfl (by kernel_rfl) (by kernel_rfl) (by kernel_rfl) rfl qD ?_
    first | refine L.field0 rfl fo77_1 rfl ?_ | refine L.field rfl fo77_1 rfl ?_
    refine A.took ?_
    refine A.takeP (i := 6) rfl rfl rfl rfl (by kernel_rfl) (by kernel_rfl) (by kernel_rfl) rfl qD ?_
    first | refine L.field0 rfl fo77_5 rfl ?_ | refine L.field rfl fo77_5 rfl ?_
    refine A.took ?_
    refine A.takeP (i := 8) rfl rfl rfl rfl (by kernel_rfl) (by kernel_rfl) (by kernel_rfl) rfl qD ?_
    first | refine L.field0 rfl fo77_4 rfl ?_ | refine L.field rfl fo77_4 rfl ?_
    refine A.took ?_
    refine A.takeP (i := 10) rfl rfl rfl rfl (by kernel_rfl) (by kernel_rfl) (by kernel_rfl) rfl qD ?_
    first | refine L.field0 rfl fo77_6 rfl ?_ | refine L.field rfl fo77_6 rfl ?_
    refine A.took ?_
    refine A.nilCheck (i := 1) rfl rfl (by kernel_rfl) (by kernel_rfl) (by kernel_rfl) (by kernel_rfl) rfl qD qF rfl ?_
    refine A.takeP (i := 2) rfl rfl rfl rfl (by kernel_rfl) (by kernel_rfl) (by kernel_rfl) rfl qD ?_
    first | refine L.field0 rfl fo59_0 rfl ?_ | refine L.field rfl fo59_0 rfl ?_
    refine A.took ?_
    refine A.take (i := 3) rfl rfl rfl rfl (by kernel_rfl) (by kernel_rfl) (by kernel_rfl) (by kernel_rfl) rfl qD qF ?_
    refine L.load rfl sc54 rfl qC ?_
    refine A.took ?_
    refine A.take (i := 5) rfl rfl rfl rfl (by kernel_rfl) (by kernel_rfl) (by kernel_rfl) (by kernel_rfl) rfl qD qF ?_
    refine L.load rfl sc3 rfl qC ?_
    refine A.took ?_
    refine A.take (i := 7) rfl rfl rfl rfl (by kernel_rfl) (by kernel_rfl) (by kernel_rfl) (by kernel_rfl) rfl qD qF ?_
    refine L.load rfl sc3 rfl qC ?_
    refine A.took ?_
    refine A.take (i := 9) rfl rfl rfl rfl (by kernel_rfl) (by kernel_rfl) (by kernel_rfl) (by kernel_rfl) rfl qD qF ?_
    refine L.loadA rfl ag50 rfl qN ?_
    refine A.took ?_
    refine A.take (i := 11) rfl rfl rfl rfl (by kernel_rfl) (by kernel_rfl) (by kernel_rfl) (by kernel_rfl) rfl qD qF ?_
    refine L.load rfl sc9 rfl qC ?_
    refine A.took ?_
    refine A.takeP (i := 12) rfl rfl rfl rfl (by kernel_rfl) (by kernel_rfl) (by kernel_rfl) rfl qD ?_
    refine L.build rfl bu65 (BP.one rfl rfl rfl <| BP.agg rfl rfl (by first | with_reducible assumption | (simp; done) | (simp only [List.length_map]; with_reducible assumption) | (simp [*]; done) | rfl) (Nat.le_of_ble_eq_true rfl) qR <| BP.one rfl rfl rfl <| BP.doneE (out := []) rfl) ?_
    refine L.known (t := 52) (u := .agg (pcells (what, id.1, tx)).toArray) rfl (by first | rfl | simp) ?_
    refine A.took ?_
    refine A.branch (is := [13]) (by kernel_rfl) (by decide) (Each.cons rfl ?_ <| Each.nil) 
    refine L.call rfl (evs.cons rfl <| evs.cons rfl <| evs.cons rfl <| evs.nil) qD qS (ban_spec (b := bb) (n := fr) (k := what) (id := id.1) (tx := tx) (F := F) hi32 htx) ?_
    rintro _ _ _ ⟨rfl, rfl, rfl⟩
    refine L.norm qA qA ?_
    refine A.backT rfl qD ?_
    refine A.takeP (i := 14) rfl rfl rfl rfl (by kernel_rfl) (by kernel_rfl) (by kernel_rfl) rfl qD ?_
    refine L.assign rfl rfl ?_
    refine A.took ?_
    refine A.done (by kernel_rfl) ?_
    refine T.thenN ?_
    refine T.seq ?_
    refine T.region ?_
    refine L.move rfl rfl ?_
    refine L.eqI rfl rfl rfl ?_
    refine L.nil ?_
    refine T.thenN ?_
    refine T.cond rfl (fun h55 => ?_) (fun h55 => ?_)
    · try simp only [decide_eq_true_eq, decide_eq_false_iff_not, Bool.not_eq_true', Bool.not_eq_false', Bool.and_eq_true, Bool.or_eq_true] at h55
      have hne : oidF what tx ≠ id.1 := fun e => by rw [if_pos e] at h55; exact absurd h55 (by decide)
      have hB : blkF F ol lk fr sq_ id what tx now = (zP, 3, ol.eraseIdx i, banB F fr (what, id.1, tx), lk) := by unfold blkF; rw [if_neg h1, if_pos hne, hit]
      refine T.seq ?_
      refine T.region ?_
      refine L.build rfl bu81 (BP.doneE (out := (Value.int .i64 0 :: Value.int .u8 0 :: Value.int .u8 0 :: Value.int .u8 0 :: Value.int .u8 0 :: Value.int .u8 0 :: Value.int .u8 0 :: Value.int .u8 0 :: Value.int .u8 0 :: Value.int .u8 0 :: Value.int .u8 0 :: Value.int .u8 0 :: Value.int .u8 0 :: Value.int .u8 0 :: Value.int .u8 0 :: Value.int .u8 0 :: Value.int .u8 0 :: Value.int .u8 0 :: Value.int .u8 0 :: Value.int .u8 0 :: Value.int .u8 0 :: Value.int .u8 0 :: Value.int .u8 0 :: Value.int .u8 0 :: Value.int .u8 0 :: Value.int .u8 0 :: Value.int .u8 0 :: Value.int .u8 0 :: Value.int .u8 0 :: Value.int .u8 0 :: Value.int .u8 0 :: Value.int .u8 0 :: Value.int .u8 0 :: S [] :: [])) rfl) ?_
      refine L.known (t := 56) (u := .agg (pcells zP).toArray) rfl (by rfl) ?_
      refine L.storeA ag81 rfl rfl qL qO qU qW ?_
      refine L.assign rfl rfl ?_
      refine L.nil ?_
      refine T.thenN ?_
      refine T.ret ?_
      refine T.thenR ?_
      exact T.retAT rfl ag81 rfl qN rfl ⟨(zP, 3, ol.eraseIdx i, banB F fr (what, id.1, tx), lk), _, on - 1, _, rfl, hB.symm, (by rw [List.length_eraseIdx, if_pos hil]; omega), rfl, rfl⟩ qD qF
    · try simp only [decide_eq_true_eq, decide_eq_false_iff_not, Bool.not_eq_true', Bool.not_eq_false', Bool.and_eq_true, Bool.or_eq_true] at h55
      have heq : ¬ oidF what tx ≠ id.1 := fun e => by rw [if_neg e] at h55; exact h55 rfl
      rw [show banB F fr (what, id.1, tx) = F from by unfold banB; exact if_pos (Decidable.not_not.1 heq)]
      refine T.skip ?_
      refine T.thenN ?_
      refine T.seq ?_
      refine T.seq ?_
      refine T.region ?_
      first | refine L.field0 rfl fo77_6 rfl ?_ | refine L.field rfl fo77_6 rfl ?_
      refine L.load rfl sc9 rfl qC ?_
      refine L.lenStr rfl Tryz.underlying9 rfl ?_
      first | refine L.field0 rfl fo96_0 rfl ?_ | refine L.field rfl fo96_0 rfl ?_
      first | refine L.field0 rfl fo52_2 rfl ?_ | refine L.field rfl fo52_2 rfl ?_
      refine L.load rfl sc3 rfl qC ?_
      refine L.gtI rfl rfl rfl ?_
      refine L.nil ?_
      refine T.thenN ?_
      refine T.cond rfl (fun h63 => ?_) (fun h63 => ?_)
      · try simp only [decide_eq_true_eq, decide_eq_false_iff_not, Bool.not_eq_true', Bool.not_eq_false', Bool.and_eq_true, Bool.or_eq_true] at h63
        have hB : blkF F ol lk fr sq_ id what tx now = (zP, 5, ol.eraseIdx i, F, Cv.put lk (fr, id) (now + 12)) := by unfold blkF; rw [if_neg h1, if_neg heq, hit, ← hx_]; exact if_pos (by omega)
        refine T.seq ?_
        refine T.regionA (clsL [1, 0, 1, 0, 1, 0, 1, 0, 1, 1, 1, 2]) (by kernel_rfl) ?_
        refine A.takeP (i := 0) rfl rfl rfl rfl (by kernel_rfl) (by kernel_rfl) (by kernel_rfl) rfl qD ?_
        refine L.move rfl rfl ?_
        refine A.took ?_
        refine A.takeP (i := 4) rfl rfl rfl rfl (by kernel_rfl) (by kernel_rfl) (by kernel_rfl) rfl qD ?_
        first | refine L.field0 rfl fo77_1 rfl ?_ | refine L.field rfl fo77_1 rfl ?_
        refine A.took ?_
        refine A.takeP (i := 6) rfl rfl rfl rfl (by kernel_rfl) (by kernel_rfl) (by kernel_rfl) rfl qD ?_
        first | refine L.field0 rfl fo77_4 rfl ?_ | refine L.field rfl fo77_4 rfl ?_
        refine A.took ?_
        refine A.takeP (i := 9) rfl rfl rfl rfl (by kernel_rfl) (by kernel_rfl) (by kernel_rfl) rfl qD ?_
        refine L.move rfl rfl ?_
        refine A.took ?_
        refine A.takeP (i := 10) rfl rfl rfl rfl (by kernel_rfl) (by kernel_rfl) (by kernel_rfl) rfl qD ?_
        refine L.addN rfl rfl rfl (by omega) ?_
        refine A.took ?_
        refine A.nilCheck (i := 1) rfl rfl (by kernel_rfl) (by kernel_rfl) (by kernel_rfl) (by kernel_rfl) rfl qD qF rfl ?_
        refine A.takeP (i := 2) rfl rfl rfl rfl (by kernel_rfl) (by kernel_rfl) (by kernel_rfl) rfl qD ?_
        first | refine L.field0 rfl fo59_4 rfl ?_ | refine L.field rfl fo59_4 rfl ?_
        refine A.took ?_
        refine A.take (i := 3) rfl rfl rfl rfl (by kernel_rfl) (by kernel_rfl) (by kernel_rfl) (by kernel_rfl) rfl qD qF ?_
        refine L.load rfl sc57 rfl qC ?_
        refine A.took ?_
        refine A.take (i := 5) rfl rfl rfl rfl (by kernel_rfl) (by kernel_rfl) (by kernel_rfl) (by kernel_rfl) rfl qD qF ?_
        refine L.load rfl sc3 rfl qC ?_
        refine A.took ?_
        refine A.take (i := 7) rfl rfl rfl rfl (by kernel_rfl) (by kernel_rfl) (by kernel_rfl) (by kernel_rfl) rfl qD qF ?_
        refine L.loadA rfl ag50 rfl qN ?_
        refine A.took ?_
        refine A.takeP (i := 8) rfl rfl rfl rfl (by kernel_rfl) (by kernel_rfl) (by kernel_rfl) rfl qD ?_
        refine L.build rfl bu125 (BP.one rfl rfl rfl <| BP.agg rfl rfl (by first | with_reducible assumption | (simp; done) | (simp only [List.length_map]; with_reducible assumption) | (simp [*]; done) | rfl) (Nat.le_of_ble_eq_true rfl) qR <| BP.doneE (out := []) rfl) ?_
        refine L.known (t := 72) (u := lkK (fr, id)) rfl (by first | rfl | simp [lkK]) ?_
        refine A.took ?_
        refine A.branch (is := [11]) (by kernel_rfl) (by decide) (Each.cons rfl ?_ <| Each.nil) 
        refine L.mapUpdate (kenc := lkK) (venc := iK) (l := lk) (k := (fr, id)) (v := now + 12) Tryz.underlying57 ktL rfl rfl rfl rfl qP ?_
        refine A.backT rfl qD ?_
        refine A.done (by kernel_rfl) ?_
        refine T.thenN ?_
        refine T.seq ?_
        refine T.region ?_
        refine L.build rfl bu81 (BP.doneE (out := (Value.int .i64 0 :: Value.int .u8 0 :: Value.int .u8 0 :: Value.int .u8 0 :: Value.int .u8 0 :: Value.int .u8 0 :: Value.int .u8 0 :: Value.int .u8 0 :: Value.int .u8 0 :: Value.int .u8 0 :: Value.int .u8 0 :: Value.int .u8 0 :: Value.int .u8 0 :: Value.int .u8 0 :: Value.int .u8 0 :: Value.int .u8 0 :: Value.int .u8 0 :: Value.int .u8 0 :: Value.int .u8 0 :: Value.int .u8 0 :: Value.int .u8 0 :: Value.int .u8 0 :: Value.int .u8 0 :: Value.int .u8 0 :: Value.int .u8 0 :: Value.int .u8 0 :: Value.int .u8 0 :: Value.int .u8 0 :: Value.int .u8 0 :: Value.int .u8 0 :: Value.int .u8 0 :: Value.int .u8 0 :: Value.int .u8 0 :: S [] :: [])) rfl) ?_
        refine L.known (t := 75) (u := .agg (pcells zP).toArray) rfl (by rfl) ?_
        refine L.storeA ag81 rfl rfl qL qO qU qW ?_
        refine L.assign rfl rfl ?_
        refine L.nil ?_
        refine T.thenN ?_
        refine T.ret ?_
        refine T.thenR ?_
        exact T.retAT rfl ag81 rfl qN rfl ⟨(zP, 5, ol.eraseIdx i, F, Cv.put lk (fr, id) (now + 12)), _, on - 1, _, rfl, hB.symm, (by rw [List.length_eraseIdx, if_pos hil]; omega), rfl, rfl⟩ qD qF
      · try simp only [decide_eq_true_eq, decide_eq_false_iff_not, Bool.not_eq_true', Bool.not_eq_false', Bool.and_eq_true, Bool.or_eq_true] at h63
        have hB : blkF F ol lk fr sq_ id what tx now = ((what, id.1, tx), 0, ol.eraseIdx i, updM F fr (goodM (F fr)), lk) := by unfold blkF; rw [if_neg h1, if_neg heq, hit, ← hx_]; exact if_neg (by omega)
        refine T.skip ?_
        refine T.thenN ?_
        refine T.seq ?_
        refine T.regionA (clsL [1, 0, 1, 0, 1, 0, 2]) (by kernel_rfl) ?_
        refine A.takeP (i := 0) rfl rfl rfl rfl (by kernel_rfl) (by kernel_rfl) (by kernel_rfl) rfl qD ?_
        refine L.move rfl rfl ?_
        refine A.took ?_
        refine A.takeP (i := 4) rfl rfl rfl rfl (by kernel_rfl) (by kernel_rfl) (by kernel_rfl) rfl qD ?_
        first | refine L.field0 rfl fo77_1 rfl ?_ | refine L.field rfl fo77_1 rfl ?_
        refine A.took ?_
        refine A.nilCheck (i := 1) rfl rfl (by kernel_rfl) (by kernel_rfl) (by kernel_rfl) (by kernel_rfl) rfl qD qF rfl ?_
        refine A.takeP (i := 2) rfl rfl rfl rfl (by kernel_rfl) (by kernel_rfl) (by kernel_rfl) rfl qD ?_
        first | refine L.field0 rfl fo59_0 rfl ?_ | refine L.field rfl fo59_0 rfl ?_
        refine A.took ?_
        refine A.take (i := 3) rfl rfl rfl rfl (by kernel_rfl) (by kernel_rfl) (by kernel_rfl) (by kernel_rfl) rfl qD qF ?_
        refine L.load rfl sc54 rfl qC ?_
        refine A.took ?_
        refine A.take (i := 5) rfl rfl rfl rfl (by kernel_rfl) (by kernel_rfl) (by kernel_rfl) (by kernel_rfl) rfl qD qF ?_
        refine L.load rfl sc3 rfl qC ?_
        refine A.took ?_
        refine A.branch (is := [6]) (by kernel_rfl) (by decide) (Each.cons rfl ?_ <| Each.nil) 
        refine L.call rfl (evs.cons rfl <| evs.cons rfl <| evs.nil) qD qS (good_spec (b := bb) (n := fr)) ?_
        rintro _ _ _ ⟨rfl, rfl, rfl⟩
        refine L.norm qA qA ?_
        refine A.backT rfl qD ?_
        refine A.done (by kernel_rfl) ?_
        refine T.thenN ?_
        refine T.seq ?_
        refine T.region ?_
        first | refine L.field0 rfl fo77_5 rfl ?_ | refine L.field rfl fo77_5 rfl ?_
        refine L.load rfl sc3 rfl qC ?_
        first | refine L.field0 rfl fo77_4 rfl ?_ | refine L.field rfl fo77_4 rfl ?_
        refine L.loadA rfl ag50 rfl qN ?_
        first | refine L.field0 rfl fo77_6 rfl ?_ | refine L.field rfl fo77_6 rfl ?_
        refine L.load rfl sc9 rfl qC ?_
        refine L.build rfl bu81 (BP.one rfl rfl rfl <| BP.agg rfl rfl (by first | with_reducible assumption | (simp; done) | (simp only [List.length_map]; with_reducible assumption) | (simp [*]; done) | rfl) (Nat.le_of_ble_eq_true rfl) qR <| BP.one rfl rfl rfl <| BP.doneE (out := []) rfl) ?_
        refine L.known (t := 89) (u := .agg (pcells (what, id.1, tx)).toArray) rfl (by first | rfl | simp) ?_
        have hp34 : (pcells (what, id.1, tx)).length = 34 := by simp [hi32]
        refine L.storeA ag81 rfl rfl qL qO qU qW ?_
        refine L.assign rfl rfl ?_
        refine L.nil ?_
        refine T.thenN ?_
        refine T.ret ?_
        exact T.retAT rfl ag81 rfl qN rfl ⟨((what, id.1, tx), 0, ol.eraseIdx i, updM F fr (goodM (F fr)), lk), _, on - 1, _, rfl, hB.symm, (by rw [List.length_eraseIdx, if_pos hil]; omega), rfl, rfl⟩ qD qF
end Cv
