/-
  The walks: misses, what is kept.
-/
import Derived.Test.YtcfhpmijippbmaaGreatRe25
import Derived.Test.YtcfhpmijippbmaaGreatProg
import Derived.KernelRfl
set_option linter.unusedVariables false
set_option linter.unusedSimpArgs false
set_option linter.unusedSectionVars false
set_option maxRecDepth 10000
namespace Cv
open Go Go.Proofs
def missF (ol : List Ord) (lk : List (LK × Int)) (fr sq : Int) (id : ID32) (what now : Int) : Bool × List Ord × List (LK × Int) :=
  if idxQ (mB fr sq id.1 what) ol < 0 then (false, ol, lk) else (true, ol.eraseIdx (idxQ (mB fr sq id.1 what) ol).toNat, Cv.put lk (fr, id) (now + 12))
@[reducible] def iC (y : ID32) : List Value := y.1.map Y
def keepI (ks : List ID32) (x : Ord) : Bool := decide (0 ≤ idxQ (fun y => decide (x.1.2.1.1 = y.1)) ks)
theorem nn_fil {p : Ord → Bool} {ol : List Ord} : (ol.filter fun x => !(!p x)) = ol.filter p := by simp
theorem sz50 : Sz Tryz.prog 50 32 := fun w => by kernel_rfl
theorem sc92 : Sc Tryz.prog 92 := fun w => ⟨by kernel_rfl, by kernel_rfl⟩
set_option maxHeartbeats 400000 in
theorem miss_spec {b bb q on oc lm : Nat} {o sq : Int} {oa : Option Addr} {ol : List Ord} {F : Int → Mind} {lk : List (LK × Int)} {fr to_ sq_ what : Int} {id : ID32} {tx : List UInt8} {pa ha : Option Addr} {pl pc hl hc : Nat} {now : Int} (hon : on ≤ 1000000) (h0 : 0 ≤ now) (h9 : now ≤ 100000000) : Spec Tryz.prog 49 [.pointer (some ⟨b, 0, none⟩), .agg (letV 9 fr to_ sq_ id.1 what tx pa pl pc ha hl hc).toArray, .int .i64 now] [] [cl b 59 (swC bb q o oa on oc lm sq), own 37 96 oa on oc ((ol).map oC), mp lm lkK iK lk] (fun v D' M' => ∃ (r : Bool × List Ord × List (LK × Int)) (oa2 : Option Addr) (on2 oc2 : Nat), v = .bool r.1 ∧ (r = missF ol lk fr sq_ id what now) ∧ (r.2.1.length = on2) ∧ D' = [] ∧ M' = [cl b 59 (swC bb q o oa2 on2 oc2 lm sq), own 37 96 oa2 on2 oc2 ((r.2.1).map oC), mp lm lkK iK r.2.2]) := by
  refine Spec.intro (n := 40) Tryz.func49 rfl rfl (by decide) (Nat.le_of_ble_eq_true rfl) rfl (fun _ => qA) (fun _ => qA) ?_
  intro σ D M
  have hi32 := id.2
  have hll := @letV_len 9 fr to_ sq_ what id.1 tx pa ha pl pc hl hc hi32
  refine T.ownLen (rows := ol.map oC) qM (fun hLl hLc => ?_)
  rw [List.length_map] at hLl
  refine T.seq ?_
  refine T.region ?_
  refine L.box rfl rfl rfl (fun b4 => ?_)
  refine L.assign rfl rfl ?_
  refine L.nil ?_
  refine T.thenN ?_
  refine T.seq ?_
  refine T.region ?_
  refine L.move rfl rfl ?_
  refine L.loadA rfl ag77 rfl qN ?_
  refine L.call rfl (evs.cons rfl <| evs.cons rfl <| evs.nil) qD qS (match_spec (F := F) (lk := lk) hon) ?_
  rintro _ _ _ ⟨rfl, rfl, rfl⟩
  refine L.norm qA qA ?_
  refine L.assign rfl rfl ?_
  refine L.nil ?_
  refine T.thenN ?_
  refine T.seq ?_
  refine T.seq ?_
  rcases Decidable.em (idxQ (mB fr sq_ id.1 what) ol < 0) with h1 | h1
  · skip
    have hB : missF ol lk fr sq_ id what now = (false, ol, lk) := by unfold missF; rw [if_pos h1]
    refine T.region ?_
    refine L.move rfl rfl ?_
    refine L.ltI rfl rfl rfl ?_
    refine L.move rfl rfl ?_
    refine L.known (t := 13) rfl (show _ = Value.bool true from congrArg Value.bool (decide_eq_true h1)) ?_
    refine L.guardF (dj := 13) (c := true) rfl rfl rfl rfl rfl (by decide) ?_
    refine L.guardF (dj := 13) (c := true) rfl rfl rfl rfl rfl (by decide) ?_
    refine L.guardF (dj := 13) (c := true) rfl rfl rfl rfl rfl (by decide) ?_
    refine L.pickT rfl rfl rfl ?_
    refine L.nil ?_
    refine T.thenN ?_
    refine T.condT rfl rfl ?_
    refine T.seq ?_
    refine T.region ?_
    refine L.assign rfl rfl ?_
    refine L.nil ?_
    refine T.thenN ?_
    refine T.ret ?_
    refine T.thenR ?_
    exact T.ret1 rfl rfl ⟨(false, ol, lk), _, _, _, rfl, hB.symm, hLl, rfl, rfl⟩ qD qF
  · skip
    obtain ⟨i, hie, hil⟩ := idxQ_nat h1
    have hgi : ol[i]? = some (gd ol i) := gd_get (by omega)
    have hit : (idxQ (mB fr sq_ id.1 what) ol).toNat = i := by omega
    have hB : missF ol lk fr sq_ id what now = (true, ol.eraseIdx i, Cv.put lk (fr, id) (now + 12)) := by unfold missF; rw [if_neg h1, hit]
    refine T.region ?_
    refine L.move rfl rfl ?_
    refine L.ltI rfl rfl rfl ?_
    refine L.move rfl rfl ?_
    refine L.known (t := 13) rfl (show _ = Value.bool false from congrArg Value.bool (decide_eq_false h1)) ?_
    refine L.guardT (dj := 13) rfl rfl rfl ?_
    first | refine L.field0 rfl fo77_0 rfl ?_ | refine L.field rfl fo77_0 rfl ?_
    refine L.guardT (dj := 13) rfl rfl rfl ?_
    refine L.load rfl sc3 rfl qC ?_
    refine L.guardT (dj := 13) rfl rfl rfl ?_
    refine L.neI rfl rfl rfl ?_
    refine L.pickF rfl rfl rfl ?_
    refine L.nil ?_
    refine T.thenN ?_
    refine T.condF rfl rfl ?_
    refine T.skip ?_
    refine T.thenN ?_
    refine T.seq ?_
    rw [hie]
    refine T.ownNe (a := oa) qM (by omega) (fun pb po ha_ => ?_)
    subst ha_
    refine T.region ?_
    refine L.move rfl rfl ?_
    refine L.move rfl rfl ?_
    refine L.nilCheck rfl rfl ?_
    first | refine L.field0 rfl fo59_3 rfl ?_ | refine L.field rfl fo59_3 rfl ?_
    refine L.load rfl sc56 rfl qC ?_
    refine L.move rfl rfl ?_
    refine L.move rfl rfl ?_
    refine L.addN rfl rfl rfl (by omega) ?_
    refine L.known (t := 25) (u := .int .i64 ((i + 1 : Nat) : Int)) rfl (by rfl) ?_
    refine L.call rfl (evs.cons rfl <| evs.cons rfl <| evs.cons rfl <| evs.nil) qD qS (dele_spec (i := i) (xs := ol) (by omega) (by omega)) ?_
    rintro _ _ _ ⟨rfl, rfl, rfl⟩
    refine L.norm qA qA ?_
    refine L.nilCheck rfl rfl ?_
    first | refine L.field0 rfl fo59_3 rfl ?_ | refine L.field rfl fo59_3 rfl ?_
    refine L.store sc56 rfl rfl rfl qU qE ?_
    refine L.nil ?_
    refine T.thenN ?_
    refine T.seq ?_
    refine T.regionA (clsL [1, 0, 1, 0, 1, 0, 1, 0, 1, 1, 1, 2]) (by kernel_rfl) ?_
    refine A.takeP (i := 0) rfl rfl rfl rfl (by kernel_rfl) (by kernel_rfl) (by kernel_rfl) rfl qD ?_
    refine L.move rfl rfl ?_
    refine A.took ?_
    refine A.takeP (i := 4) rfl rfl rfl rfl (by kernel_rfl) (by kernel_rfl) (by kernel_rfl) rfl qD ?_
    first | refine L.field0 rfl fo77_1 rfl ?_ | refine L.field rfl fo77_1 rfl ?_
    refine A.took ?_
    refine A.takeP (i := 6) rfl rfl rfl rfl (by kernel_rfl) (by kernel_rfl) (by kernel_rfl) rfl qD ?_
    first | refine L.field0 rfl fo77_4 rfl ?_ | refine L.field rfl fo77_4 rfl ?_
    refine A.took ?_
    refine A.takeP (i := 9) rfl rfl rfl rfl (by kernel_rfl) (by kernel_rfl) (by kernel_rfl) rfl qD ?_
    refine L.move rfl rfl ?_
    refine A.took ?_
    refine A.takeP (i := 10) rfl rfl rfl rfl (by kernel_rfl) (by kernel_rfl) (by kernel_rfl) rfl qD ?_
    refine L.addN rfl rfl rfl (by omega) ?_
    refine A.took ?_
    refine A.nilCheck (i := 1) rfl rfl (by kernel_rfl) (by kernel_rfl) (by kernel_rfl) (by kernel_rfl) rfl qD qF rfl ?_
    refine A.takeP (i := 2) rfl rfl rfl rfl (by kernel_rfl) (by kernel_rfl) (by kernel_rfl) rfl qD ?_
    first | refine L.field0 rfl fo59_4 rfl ?_ | refine L.field rfl fo59_4 rfl ?_
    refine A.took ?_
    refine A.take (i := 3) rfl rfl rfl rfl (by kernel_rfl) (by kernel_rfl) (by kernel_rfl) (by kernel_rfl) rfl qD qF ?_
    refine L.load rfl sc57 rfl qC ?_
    refine A.took ?_
    refine A.take (i := 5) rfl rfl rfl rfl (by kernel_rfl) (by kernel_rfl) (by kernel_rfl) (by kernel_rfl) rfl qD qF ?_
    refine L.load rfl sc3 rfl qC ?_
    refine A.took ?_
    refine A.take (i := 7) rfl rfl rfl rfl (by kernel_rfl) (by kernel_rfl) (by kernel_rfl) (by kernel_rfl) rfl qD qF ?_
    refine L.loadA rfl ag50 rfl qN ?_
    refine A.took ?_
    refine A.takeP (i := 8) rfl rfl rfl rfl (by kernel_rfl) (by kernel_rfl) (by kernel_rfl) rfl qD ?_
    refine L.build rfl bu125 (BP.one rfl rfl rfl <| BP.agg rfl rfl (by first | with_reducible assumption | (simp; done) | (simp only [List.length_map]; with_reducible assumption) | (simp [*]; done) | rfl) (Nat.le_of_ble_eq_true rfl) qR <| BP.doneE (out := []) rfl) ?_
    refine L.known (t := 37) (u := lkK (fr, id)) rfl (by first | rfl | simp [lkK]) ?_
    refine A.took ?_
    refine A.branch (is := [11]) (by kernel_rfl) (by decide) (Each.cons rfl ?_ <| Each.nil) 
    refine L.mapUpdate (kenc := lkK) (venc := iK) (l := lk) (k := (fr, id)) (v := now + 12) Tryz.underlying57 ktL rfl rfl rfl rfl qP ?_
    refine A.backT rfl qD ?_
    refine A.done (by kernel_rfl) ?_
    refine T.thenN ?_
    refine T.seq ?_
    refine T.region ?_
    refine L.assign rfl rfl ?_
    refine L.nil ?_
    refine T.thenN ?_
    refine T.ret ?_
    exact T.ret1 rfl rfl ⟨(true, ol.eraseIdx i, Cv.put lk (fr, id) (now + 12)), _, on - 1, _, rfl, hB.symm, (by rw [List.length_eraseIdx, if_pos hil]; omega), rfl, rfl⟩ qD qF
set_option maxHeartbeats 400000 in
theorem idxI_spec {ka : Option Addr} {kn kc : Nat} {ks : List ID32} {id : ID32} (hkn : kn ≤ 1000000) : Spec Tryz.prog 79 [.slice ka kn kc, .agg (id.1.map Y).toArray] [rsl 32 ka kn kc (ks.map iC)] [] (fun v D' M' => v = .int .i64 (idxQ (fun y => decide (id.1 = y.1)) ks) ∧ D' = [] ∧ M' = []) := by
  refine Spec.intro (n := 19) Tryz.func79 rfl rfl (by decide) (Nat.le_of_ble_eq_true rfl) rfl (fun _ => qA) (fun _ => qA) ?_
  intro σ D M
  refine T.rslLen2 (rows := ks.map iC) qM (fun hkl hkc => ?_)
  rw [List.length_map] at hkl
  have hi32 := id.2
  have hil : (id.1.map Y).length = 32 := by rw [List.length_map]; exact hi32
  refine T.seq ?_
  refine T.region ?_
  refine L.box rfl rfl rfl (fun b3 => ?_)
  refine L.assign rfl rfl ?_
  refine L.nil ?_
  refine T.thenN ?_
  refine T.seq ?_
  refine T.seq ?_
  refine T.freeze (A := cl b3 50 (id.1.map Y)) qP ?_
  refine T.region ?_
  refine L.move rfl rfl ?_
  refine L.lenSl rfl Tryz.underlying92 rfl ?_
  refine L.move rfl rfl ?_
  refine L.nil ?_
  refine T.thenN ?_
  refine T.block ?_
  refine T.loop (fun K' D' M' μ => ∃ (j : Nat), (j ≤ kn ∧ ∀ z ∈ ks.take j, decide (id.1 = z.1) = false) ∧ K' = [(8, .int .i64 j)] ∧ D' = [] ∧ M' = [] ∧ μ = kn - j) (.cons (t := 0) rfl <| .cons (t := 3) rfl <| .cons (t := 7) rfl <| SubK.nil _) (⟨0, ⟨by omega, by simp⟩, rfl, rfl, rfl, rfl⟩) (.cons (t := 8) rfl <| SubK.nil _) qD qS ?_
  rintro K1 D1 M1 m1 ⟨j, ⟨hj, hall⟩, rfl, rfl, rfl, rfl⟩
  refine T.norm3 qA qA qA ?_
  refine T.seq ?_
  refine T.region ?_
  refine L.ltI rfl rfl rfl ?_
  refine L.nil ?_
  refine T.thenN ?_
  refine T.seq ?_
  refine T.cond rfl (fun h9 => ?_) (fun h9 => ?_)
  · try simp only [decide_eq_true_eq, decide_eq_false_iff_not, Bool.not_eq_true', Bool.not_eq_false', Bool.and_eq_true, Bool.or_eq_true] at h9
    refine T.skip ?_
    refine T.thenN ?_
    refine T.seq ?_
    refine T.block ?_
    refine T.seq ?_
    refine T.region ?_
    refine L.move rfl rfl ?_
    refine L.assign rfl rfl ?_
    refine L.nil ?_
    refine T.thenN ?_
    refine T.seq ?_
    obtain ⟨y, hgj⟩ := ex_get (l := ks) (k := j) (by omega)
    have hgo : (ks.map iC)[j]? = some (iC y) := map_get hgj
    have hy32 := y.2
    have hyl : (iC y).length = 32 := by rw [List.length_map]; exact hy32
    refine T.rslAddr (rows := ks.map iC) qM (fun e => by have h2 := congrArg List.length e; rw [List.length_map, List.length_nil] at h2; omega) (fun pk qk hka => ?_)
    subst hka
    refine T.regionQ (by kernel_rfl) (by kernel_rfl) ?_
    refine L.loadA rfl ag50 rfl qN ?_
    refine L.move rfl rfl ?_
    refine L.move rfl rfl ?_
    refine L.idxG (i := j) rfl Tryz.underlying92 sz50 rfl rfl (by first | rfl | omega | (simp; done)) qI ?_
    refine L.loadA rfl ag50 rfl (CellsN.ofRsl qM hgo hyl) ?_
    refine L.eqlArrI (by kernel_rfl) rfl Tryz.underlying50 Tryz.underlying5 sc5 rfl rfl qL qL ?_
    refine L.nilQ ?_
    refine T.thenN ?_
    refine T.cond rfl (fun h16 => ?_) (fun h16 => ?_)
    · try simp only [decide_eq_true_eq, decide_eq_false_iff_not, Bool.not_eq_true', Bool.not_eq_false', Bool.and_eq_true, Bool.or_eq_true] at h16
      refine T.seq ?_
      refine T.region ?_
      refine L.move rfl rfl ?_
      refine L.assign rfl rfl ?_
      refine L.nil ?_
      refine T.thenN ?_
      refine T.ret ?_
      refine T.blkR ?_
      refine T.thenR ?_
      refine T.thenR ?_
      refine T.blkR ?_
      refine T.thenR ?_
      exact T.ret1 rfl rfl ⟨congrArg (Value.int .i64) (idxQ_at hall hgj (decide_eq_true h16)).symm, rfl, rfl⟩ qD qF
    · try simp only [decide_eq_true_eq, decide_eq_false_iff_not, Bool.not_eq_true', Bool.not_eq_false', Bool.and_eq_true, Bool.or_eq_true] at h16
      refine T.skip ?_
      refine T.blkN ?_
      refine T.thenN ?_
      refine T.region ?_
      refine L.addN rfl rfl rfl (by omega) ?_
      refine L.move rfl rfl ?_
      refine L.nil ?_
      refine T.thenN ?_
      exact T.back ⟨j + 1, ⟨by omega, all_step (P := fun z => decide (id.1 = z.1) = false) hall hgj (decide_eq_false h16)⟩, rfl, rfl, rfl, rfl⟩ qI (.cons (t := 8) rfl <| SubK.nil _) (.cons (t := 0) rfl <| .cons (t := 3) rfl <| .cons (t := 7) rfl <| SubK.nil _) qD qD qF
  · try simp only [decide_eq_true_eq, decide_eq_false_iff_not, Bool.not_eq_true', Bool.not_eq_false', Bool.and_eq_true, Bool.or_eq_true] at h9
    obtain rfl : kn = j := by omega
    rw [List.take_of_length_le (by omega)] at hall
    refine T.exit ?_
    refine T.thenX ?_
    refine T.thenX ?_
    refine T.blkX ?_
    refine T.thenN ?_
    refine T.seq ?_
    refine T.region ?_
    refine L.assign rfl rfl ?_
    refine L.nil ?_
    refine T.thenN ?_
    refine T.ret ?_
    exact T.ret1 rfl rfl ⟨congrArg (Value.int .i64) (idxQ_none hall).symm, rfl, rfl⟩ qD qF
set_option maxHeartbeats 400000 in
theorem conI_spec {ka : Option Addr} {kn kc : Nat} {ks : List ID32} {id : ID32} (hkn : kn ≤ 1000000) : Spec Tryz.prog 59 [.slice ka kn kc, .agg (id.1.map Y).toArray] [rsl 32 ka kn kc (ks.map iC)] [] (fun v D' M' => v = .bool (decide (0 ≤ idxQ (fun y => decide (id.1 = y.1)) ks)) ∧ D' = [] ∧ M' = []) := by
  refine Spec.intro (n := 9) Tryz.func59 rfl rfl (by decide) (Nat.le_of_ble_eq_true rfl) rfl (fun _ => qA) (fun _ => qA) ?_
  intro σ D M
  have hi32 := id.2
  have hil : (id.1.map Y).length = 32 := by rw [List.length_map]; exact hi32
  refine T.seq ?_
  refine T.region ?_
  refine L.box rfl rfl rfl (fun b3 => ?_)
  refine L.assign rfl rfl ?_
  refine L.nil ?_
  refine T.thenN ?_
  refine T.seq ?_
  refine T.region ?_
  refine L.move rfl rfl ?_
  refine L.loadA rfl ag50 rfl qN ?_
  refine L.callF rfl (evs.cons rfl <| evs.cons rfl <| evs.nil) qD qS (idxI_spec (ks := ks) hkn) (by rintro u D1 M1 ⟨rfl, rfl, rfl⟩; exact ⟨rfl, _, qA, qF⟩) ?_
  refine L.geI rfl rfl rfl ?_
  refine L.assign rfl rfl ?_
  refine L.nil ?_
  refine T.thenN ?_
  refine T.ret ?_
  exact T.ret1 rfl rfl ⟨rfl, rfl, rfl⟩ qD qF
set_option maxHeartbeats 400000 in
theorem forget1_spec {bk : Nat} {x : Ord} {ka : Option Addr} {kn kc : Nat} {ks : List ID32} (hkn : kn ≤ 1000000) : Spec Tryz.prog 58 [.agg (oC x).toArray, .pointer (some ⟨bk, 0, none⟩)] [] [cl bk 92 [.slice ka kn kc], own 32 50 ka kn kc (ks.map iC)] (fun v D' M' => v = .bool (!keepI ks x) ∧ D' = [] ∧ M' = [cl bk 92 [.slice ka kn kc], own 32 50 ka kn kc (ks.map iC)]) := by
  refine Spec.intro (n := 10) Tryz.func58 rfl rfl (by decide) (Nat.le_of_ble_eq_true rfl) rfl (fun _ => qA) (fun _ => qA) ?_
  intro σ D M
  have hol := oC_len x
  have hx32 := x.1.2.1.2
  refine T.seq ?_
  refine T.region ?_
  refine L.box rfl rfl rfl (fun b2 => ?_)
  refine L.assign rfl rfl ?_
  refine L.nil ?_
  refine T.thenN ?_
  refine T.seq ?_
  refine T.region ?_
  refine L.load rfl sc92 rfl qC ?_
  first | refine L.field0 rfl fo96_0 rfl ?_ | refine L.field rfl fo96_0 rfl ?_
  first | refine L.field0 rfl fo52_1 rfl ?_ | refine L.field rfl fo52_1 rfl ?_
  refine L.loadA rfl ag50 rfl qN ?_
  refine L.callB1 (A := own 32 50 ka kn kc (ks.map iC)) rfl (evs.cons rfl <| evs.cons rfl <| evs.nil) qS qP (fun z H => rsl_of_own H) (conI_spec (ks := ks) (id := x.1.2.1) hkn) ?_
  rintro _ _ _ ⟨rfl, rfl, rfl⟩
  refine L.norm AppL.nil qA ?_
  refine L.notB rfl rfl ?_
  refine L.assign rfl rfl ?_
  refine L.nil ?_
  refine T.thenN ?_
  refine T.ret ?_
  exact T.ret1 rfl rfl ⟨rfl, rfl, rfl⟩ qD qF
set_option maxHeartbeats 400000 in
theorem forgetS_spec {b bb q on oc lm : Nat} {o sq : Int} {oa : Option Addr} {ol : List Ord} {F : Int → Mind} {lk : List (LK × Int)} {ka : Option Addr} {kn kc : Nat} {ks : List ID32} (hon : on ≤ 1000000) (hkn : kn ≤ 1000000) : Spec Tryz.prog 30 [.pointer (some ⟨b, 0, none⟩), .slice ka kn kc] [] [cl b 59 (swC bb q o oa on oc lm sq), own 37 96 oa on oc ((ol).map oC), own 32 50 ka kn kc (ks.map iC)] (fun v D' M' => ∃ (oa2 : Option Addr) (on2 oc2 : Nat), v = .tuple #[] ∧ ((ol.filter (keepI ks)).length = on2) ∧ D' = [] ∧ M' = [cl b 59 (swC bb q o oa2 on2 oc2 lm sq), own 37 96 oa2 on2 oc2 ((ol.filter (keepI ks)).map oC), own 32 50 ka kn kc (ks.map iC)]) := by
  refine Spec.intro (n := 13) Tryz.func30 rfl rfl (by decide) (Nat.le_of_ble_eq_true rfl) rfl (fun _ => qA) (fun _ => qA) ?_
  intro σ D M
  refine T.seq ?_
  refine T.region ?_
  refine L.box rfl rfl rfl (fun b3 => ?_)
  refine L.nil ?_
  refine T.thenN ?_
  refine T.region ?_
  refine L.move rfl rfl ?_
  refine L.move rfl rfl ?_
  refine L.nilCheck rfl rfl ?_
  first | refine L.field0 rfl fo59_3 rfl ?_ | refine L.field rfl fo59_3 rfl ?_
  refine L.load rfl sc56 rfl qC ?_
  refine L.makeFunc rfl (evs.cons rfl <| evs.nil) ?_
  refine L.foldAs (all [cl b3 92 [.slice ka kn kc], own 32 50 ka kn kc (ks.map iC)]) qS rfl ?_
  refine L.call rfl (evs.cons rfl <| evs.cons rfl <| evs.nil) qD qS (delo_spec (St := Unit) (g := 58) (caps := [.pointer (some ⟨b3, 0, none⟩)]) (Ac := fun _ => all [cl b3 92 [.slice ka kn kc], own 32 50 ka kn kc (ks.map iC)]) (p := fun x => !keepI ks x) (st := fun s _ => s) (s := ()) (xs := ol) (fun _ x _ => specAllM (forget1_spec (bk := b3) (x := x) hkn)) (by omega)) ?_
  rintro _ _ _ ⟨oa2, on2, oc2, rfl, holn2, rfl, rfl⟩
  refine L.norm qA qA ?_
  refine L.unfold [cl b3 92 [.slice ka kn kc], own 32 50 ka kn kc (ks.map iC)] qP rfl qA ?_
  rw [nn_fil] at holn2 ⊢
  refine L.nilCheck rfl rfl ?_
  first | refine L.field0 rfl fo59_3 rfl ?_ | refine L.field rfl fo59_3 rfl ?_
  refine L.store sc56 rfl rfl rfl qU qE ?_
  refine L.nil ?_
  exact T.retN (by simp) rfl ⟨_, _, _, rfl, holn2, rfl, rfl⟩ qD qF
end Cv
