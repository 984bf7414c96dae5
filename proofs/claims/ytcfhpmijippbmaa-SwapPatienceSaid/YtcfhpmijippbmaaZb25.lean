/-
  The walks: patience.
-/
import Derived.Test.YtcfhpmijippbmaaZa25
import Derived.Test.YtcfhpmijippbmaaProg
import Derived.KernelRfl
set_option linter.unusedVariables false
set_option linter.unusedSimpArgs false
set_option linter.unusedSectionVars false
set_option maxRecDepth 10000
namespace Cv
open Go Go.Proofs

set_option maxHeartbeats 1000000 in
theorem patience_law (n y : Int)  : Spec Try.prog 3 [.int .i64 n, .int .i64 y] [] [] (fun v D' M' => v = .bool true ∧ D' = [] ∧ M' = []) := by
  refine Spec.intro (n := 107) Try.func3 rfl rfl (by decide) (Nat.le_of_ble_eq_true rfl) rfl (fun _ => qA) (fun _ => qA) ?_
  intro σ D M
  obtain ⟨m, hm⟩ : ∃ m, m = n20 n := ⟨_, rfl⟩
  obtain ⟨t, ht⟩ : ∃ t, t = (y.tmod 1000 + 1000).tmod 1000 := ⟨_, rfl⟩
  have ht1 := in1000 y
  rw [← ht] at ht1
  obtain ⟨ht0, ht9⟩ := ht1
  have htm := tmod1000 y
  have hz34 : (pcells zP).length = 34 := by rfl
  have hi32 := (chI m).2
  have hc32 := (chW m).2.1.2
  have hw34 := wC_len (chW m)
  have hp34 : (pcells (1, (chI m).1, chT m)).length = 34 := by simp [hi32]
  refine T.seq ?_
  refine T.region ?_
  refine L.assign rfl rfl ?_
  refine L.nil ?_
  refine T.thenN ?_
  refine T.seq ?_
  refine T.seq ?_
  refine T.region ?_
  refine L.call rfl (evs.nil) qD qS (awake25_spec) ?_
  rintro _ _ _ ⟨rfl, rfl, rfl⟩
  refine L.norm qA qA ?_
  refine L.notB rfl rfl ?_
  refine L.nil ?_
  refine T.thenN ?_
  refine T.condF rfl rfl ?_
  refine T.skip ?_
  refine T.thenN ?_
  refine T.seq ?_
  refine T.region ?_
  refine L.build rfl bu28 (BP.one rfl rfl rfl <| BP.one rfl rfl rfl <| BP.doneE (out := []) rfl) ?_
  refine L.call rfl (evs.cons rfl <| evs.cons rfl <| evs.nil) qD qS (wnew_spec) ?_
  rintro _ _ _ ⟨b, bb, q, lm, rfl, rfl, rfl⟩
  refine L.norm qA qA ?_
  refine L.eqv qP (show bookA bb (fun _ => zM) = bookA bb zF from rfl) ?_
  refine L.move rfl rfl ?_
  refine L.extract rfl rfl rfl ?_
  refine L.extract rfl rfl rfl ?_
  refine L.assign rfl rfl ?_
  refine L.assign rfl rfl ?_
  refine L.nil ?_
  refine T.thenN ?_
  refine T.seq ?_
  refine T.region ?_
  refine L.move rfl rfl ?_
  refine L.remI rfl rfl rfl (by decide) ?_
  refine L.addN rfl rfl rfl (by omega) ?_
  refine L.remI rfl rfl rfl (by decide) ?_
  refine L.known (t := 24) (u := .int .i64 t) rfl (by rw [ht]) ?_
  refine L.assign rfl rfl ?_
  refine L.nil ?_
  refine T.thenN ?_
  refine T.seq ?_
  refine T.region ?_
  refine L.move rfl rfl ?_
  refine L.callF rfl (evs.cons rfl <| evs.nil) qD qS (chunk_spec (n := n)) (by rintro u D1 M1 ⟨rfl, rfl, rfl⟩; exact ⟨rfl, _, qA, qF⟩) ?_
  rw [← hm]
  refine L.move rfl rfl ?_
  refine L.extract rfl rfl rfl ?_
  refine L.extract rfl rfl rfl ?_
  refine L.alloc rfl ze32 (fun b7 => ?_)
  refine L.alloc rfl ze34 (fun b8 => ?_)
  refine L.storeA ag32 rfl rfl qL qO qU qW ?_
  refine L.storeA ag34 rfl rfl qL qO qU qW ?_
  refine L.nil ?_
  refine T.thenN ?_
  refine T.seq ?_
  refine T.region ?_
  refine L.move rfl rfl ?_
  refine L.move rfl rfl ?_
  refine L.buildSlice rfl bs39 (by decide) (BP.one rfl rfl rfl <| BP.one rfl rfl rfl <| BP.doneE (out := []) rfl) (fun b32 => ?_)
  refine L.toOwn (len := 2) qP (rows := [(4 : Int), 7].map e3) (sz := 1) (by rfl) rfl (by first | (simp; done) | (simp [hc32]; done)) ?_
  refine L.ownRsl qP ?_
  refine L.loadA rfl ag32 rfl qN ?_
  refine L.buildSlice rfl bs43 (by decide) (BP.agg rfl rfl (by first | with_reducible assumption | (simp; done) | (simp only [List.length_map]; with_reducible assumption) | (simp [*]; done) | rfl) (Nat.le_of_ble_eq_true rfl) qR <| BP.doneE (out := []) rfl) (fun b34 => ?_)
  refine L.toOwn (len := 1) qP (rows := [chW m].map wC) (sz := 34) (by rfl) rfl (by first | (simp; done) | (simp [hc32]; done)) ?_
  refine L.ownRsl qP ?_
  refine L.call rfl (evs.cons rfl <| evs.cons rfl <| evs.cons rfl <| evs.cons rfl <| evs.nil) qD qS (askW_spec (b := b) (bb := bb) (q := q) (lm := lm) (o := 1) (sq := 0) (F := zF) (lk := []) (ol := []) (hs := [4, 7]) (ws := [chW m]) (now := t) (by decide) (by decide) (by decide) (by decide)) ?_
  rintro _ _ _ ⟨la, oa, ln, lc, on, oc, sq1, ol, out, rfl, hA, hln, hon, rfl, rfl⟩
  refine L.norm qA qA ?_
  obtain ⟨rfl, rfl, rfl⟩ := ask_one 1 rfl (fun n ok h => whom_4 ht0 h) hA
  obtain rfl : ln = 1 := hln.symm
  obtain rfl : on = 1 := hon.symm
  refine L.assign rfl rfl ?_
  refine L.nil ?_
  refine T.thenN ?_
  refine T.seq ?_
  refine T.seq ?_
  refine T.ownNe (a := la) qM (by decide) (fun pl po hla => ?_)
  subst hla
  have hg0 : ([((chW m, 4, 1, t) : Ord)].map (lR 1))[0]? = some (lR 1 (chW m, 4, 1, t)) := rfl
  refine T.region ?_
  refine L.move rfl rfl ?_
  refine L.lenSl rfl Try.underlying37 rfl ?_
  refine L.neI rfl rfl rfl ?_
  refine L.move rfl rfl ?_
  refine L.known (t := 39) rfl (show _ = Value.bool false from rfl) ?_
  refine L.guardT (dj := 39) rfl rfl rfl ?_
  refine L.move rfl rfl ?_
  refine L.guardT (dj := 39) rfl rfl rfl ?_
  refine L.idxG (i := 0) rfl Try.underlying37 sz41 rfl rfl (by first | rfl | omega | (simp; done)) qI ?_
  refine L.guardT (dj := 39) rfl rfl rfl ?_
  first | refine L.field0 rfl fo41_2 rfl ?_ | refine L.field rfl fo41_2 rfl ?_
  refine L.guardT (dj := 39) rfl rfl rfl ?_
  refine L.load rfl sc3 rfl qC ?_
  refine L.guardT (dj := 39) rfl rfl rfl ?_
  refine L.neI rfl rfl rfl ?_
  refine L.pickF rfl rfl rfl ?_
  refine L.nil ?_
  refine T.thenN ?_
  refine T.condF rfl rfl ?_
  refine T.skip ?_
  refine T.thenN ?_
  refine T.seq ?_
  refine T.region ?_
  refine L.move rfl rfl ?_
  refine L.move rfl rfl ?_
  refine L.addN rfl rfl rfl (by omega) ?_
  refine L.subN rfl rfl rfl (by omega) ?_
  refine L.call rfl (evs.cons rfl <| evs.cons rfl <| evs.nil) qD qS (tickM_spec (b := b) (bb := bb) (q := q) (lm := lm) (o := 1) (sq := 1) (F := zF) (lk := []) (ol := [(chW m, 4, 1, t)]) (now := t + 6 - 1) (by decide) (by omega) (by omega) (fun x hx => by simp at hx; subst hx; exact ⟨by show (-1000000 : Int) ≤ t; omega, by show t ≤ 1000000000; omega⟩)) ?_
  rintro _ _ _ ⟨oa2, on2, oc2, rfl, hon2, rfl, rfl⟩
  refine L.norm qA qA ?_
  rw [fil_no (show t + 6 - 1 - t < 6 by omega)] at hon2
  obtain rfl : on2 = 1 := hon2.symm
  rw [fil_no (show t + 6 - 1 - t < 6 by omega), del_no (show t + 6 - 1 - t < 6 by omega), lk_nil]
  refine L.nil ?_
  refine T.thenN ?_
  refine T.seq ?_
  refine T.seq ?_
  refine T.region ?_
  refine L.move rfl rfl ?_
  refine L.call rfl (evs.cons rfl <| evs.nil) qD qS (open_spec (F := zF) (lk := []) (by decide)) ?_
  rintro _ _ _ ⟨wa, wl, wc, rfl, hwl, rfl, rfl⟩
  refine L.norm qA qA ?_
  obtain rfl : wl = 1 := hwl.symm
  refine L.lenSl rfl Try.underlying43 rfl ?_
  refine L.neI rfl rfl rfl ?_
  refine L.nil ?_
  refine T.thenN ?_
  refine T.condF rfl rfl ?_
  refine T.skip ?_
  refine T.thenN ?_
  refine T.seq ?_
  refine T.region ?_
  refine L.move rfl rfl ?_
  refine L.move rfl rfl ?_
  refine L.addN rfl rfl rfl (by omega) ?_
  refine L.call rfl (evs.cons rfl <| evs.cons rfl <| evs.nil) qD qS (tickM_spec (b := b) (bb := bb) (q := q) (lm := lm) (o := 1) (sq := 1) (F := zF) (lk := []) (ol := [(chW m, 4, 1, t)]) (now := t + 6) (by decide) (by omega) (by omega) (fun x hx => by simp at hx; subst hx; exact ⟨by show (-1000000 : Int) ≤ t; omega, by show t ≤ 1000000000; omega⟩)) ?_
  rintro _ _ _ ⟨oa3, on3, oc3, rfl, hon3, rfl, rfl⟩
  refine L.norm qA qA ?_
  rw [fil_yes (show 6 ≤ t + 6 - t by omega)] at hon3
  obtain rfl : on3 = 0 := hon3.symm
  rw [fil_yes (show 6 ≤ t + 6 - t by omega), del_yes4 (show 6 ≤ t + 6 - t by omega), lk_nil]
  refine L.nil ?_
  refine T.thenN ?_
  refine T.seq ?_
  refine T.region ?_
  refine L.move rfl rfl ?_
  refine L.move rfl rfl ?_
  refine L.addN rfl rfl rfl (by omega) ?_
  refine L.buildSlice rfl bs39 (by decide) (BP.one rfl rfl rfl <| BP.one rfl rfl rfl <| BP.doneE (out := []) rfl) (fun b62 => ?_)
  refine L.toOwn (len := 2) qP (rows := [(4 : Int), 7].map e3) (sz := 1) (by rfl) rfl (by first | (simp; done) | (simp [hc32]; done)) ?_
  refine L.ownRsl qP ?_
  refine L.loadA rfl ag32 rfl qN ?_
  refine L.buildSlice rfl bs43 (by decide) (BP.agg rfl rfl (by first | with_reducible assumption | (simp; done) | (simp only [List.length_map]; with_reducible assumption) | (simp [*]; done) | rfl) (Nat.le_of_ble_eq_true rfl) qR <| BP.doneE (out := []) rfl) (fun b64 => ?_)
  refine L.toOwn (len := 1) qP (rows := [chW m].map wC) (sz := 34) (by rfl) rfl (by first | (simp; done) | (simp [hc32]; done)) ?_
  refine L.ownRsl qP ?_
  refine L.call rfl (evs.cons rfl <| evs.cons rfl <| evs.cons rfl <| evs.cons rfl <| evs.nil) qD qS (askW_spec (b := b) (bb := bb) (q := q) (lm := lm) (o := 1) (sq := 1) (F := (sF (t + 6))) (lk := []) (ol := []) (hs := [4, 7]) (ws := [chW m]) (now := t + 6) (by decide) (by decide) (by decide) (by decide)) ?_
  rintro _ _ _ ⟨ma, oa4, mn, mc, on4, oc4, sq4, ol4, out4, rfl, hA4, hmn, hon4, rfl, rfl⟩
  refine L.norm qA qA ?_
  obtain ⟨rfl, rfl, rfl⟩ := ask_one 2 rfl (fun n ok h => whom_7 (by omega) h) hA4
  obtain rfl : mn = 1 := hmn.symm
  obtain rfl : on4 = 1 := hon4.symm
  refine L.assign rfl rfl ?_
  refine L.nil ?_
  refine T.thenN ?_
  refine T.seq ?_
  refine T.ownNe (a := ma) qM (by decide) (fun pm qm hma => ?_)
  subst hma
  have hg1 : ([((chW m, 7, 2, t + 6) : Ord)].map (lR 1))[0]? = some (lR 1 (chW m, 7, 2, t + 6)) := rfl
  refine T.region ?_
  refine L.move rfl rfl ?_
  refine L.idxG (i := 0) rfl Try.underlying37 sz41 rfl rfl (by first | rfl | omega | (simp; done)) qI ?_
  refine L.loadA rfl ag41 rfl (CellsN.ofOwn qM hg0 lR_len) ?_
  refine L.callF rfl (evs.cons rfl <| evs.cons rfl <| evs.nil) qD qS (reply8_spec hi32) (by rintro u D1 M1 ⟨rfl, rfl, rfl⟩; exact ⟨rfl, _, qA, qF⟩) ?_
  have hl40 : (letV 8 4 1 1 (chI m).1 1 [] none 0 0 none 0 0).length = 40 := letV_len hi32
  refine L.alloc rfl ze41 (fun b11 => ?_)
  refine L.storeA ag41 rfl rfl qL qO qU qW ?_
  refine L.nil ?_
  refine T.thenN ?_
  refine T.seq ?_
  refine T.region ?_
  refine L.move rfl rfl ?_
  refine L.loadA rfl ag41 rfl qN ?_
  refine L.move rfl rfl ?_
  refine L.addN rfl rfl rfl (by omega) ?_
  refine L.call rfl (evs.cons rfl <| evs.cons rfl <| evs.cons rfl <| evs.nil) qD qS (blk_spec (b := b) (bb := bb) (q := q) (lm := lm) (o := 1) (sq := 2) (F := sF (t + 6)) (lk := []) (ol := [(chW m, 7, 2, t + 6)]) (fr := 4) (to_ := 1) (sq_ := 1) (what := 1) (id := chI m) (tx := []) (now := t + 6) (by decide) (by omega) (by omega) (by decide)) ?_
  rintro _ _ _ ⟨r, oa5, on5, oc5, rfl, hr, hon5, rfl, rfl⟩
  refine L.norm qA qA ?_
  obtain rfl := hr.trans (blk_none (fun x hx => mB_of (by simp at hx; subst hx; exact (by decide : (7 : Int) ≠ 4))))
  obtain rfl : on5 = 1 := hon5.symm
  refine L.move rfl rfl ?_
  refine L.extract rfl rfl rfl ?_
  refine L.extract rfl rfl rfl ?_
  refine L.alloc rfl ze34 (fun b12 => ?_)
  refine L.storeA ag34 rfl rfl qL qO qU qW ?_
  refine L.assign rfl rfl ?_
  refine L.nil ?_
  refine T.thenN ?_
  refine T.seq ?_
  refine T.region ?_
  refine L.move rfl rfl ?_
  refine L.lenSl rfl Try.underlying37 rfl ?_
  refine L.eqI rfl rfl rfl ?_
  refine L.move rfl rfl ?_
  refine L.known (t := 81) rfl (show _ = Value.bool true from rfl) ?_
  refine L.guardT (dj := 81) rfl rfl rfl ?_
  refine L.move rfl rfl ?_
  refine L.guardT (dj := 81) rfl rfl rfl ?_
  refine L.idxG (i := 0) rfl Try.underlying37 sz41 rfl rfl (by first | rfl | omega | (simp; done)) qI ?_
  refine L.guardT (dj := 81) rfl rfl rfl ?_
  first | refine L.field0 rfl fo41_2 rfl ?_ | refine L.field rfl fo41_2 rfl ?_
  refine L.guardT (dj := 81) rfl rfl rfl ?_
  refine L.load rfl sc3 rfl qC ?_
  refine L.guardT (dj := 81) rfl rfl rfl ?_
  refine L.eqI rfl rfl rfl ?_
  refine L.pickT rfl rfl rfl ?_
  refine L.move rfl rfl ?_
  refine L.known (t := 88) rfl (show _ = Value.bool true from rfl) ?_
  refine L.guardT (dj := 88) rfl rfl rfl ?_
  refine L.move rfl rfl ?_
  refine L.guardT (dj := 88) rfl rfl rfl ?_
  refine L.idxG (i := 0) rfl Try.underlying37 sz41 rfl rfl (by first | rfl | omega | (simp; done)) qI ?_
  refine L.guardT (dj := 88) rfl rfl rfl ?_
  first | refine L.field0 rfl fo41_3 rfl ?_ | refine L.field rfl fo41_3 rfl ?_
  refine L.guardT (dj := 88) rfl rfl rfl ?_
  refine L.load rfl sc3 rfl qC ?_
  refine L.guardT (dj := 88) rfl rfl rfl ?_
  refine L.eqI rfl rfl rfl ?_
  refine L.pickT rfl rfl rfl ?_
  refine L.move rfl rfl ?_
  refine L.known (t := 95) rfl (show _ = Value.bool true from rfl) ?_
  refine L.guardT (dj := 95) rfl rfl rfl ?_
  refine L.move rfl rfl ?_
  refine L.guardT (dj := 95) rfl rfl rfl ?_
  refine L.eqI rfl rfl rfl ?_
  refine L.pickT rfl rfl rfl ?_
  refine L.move rfl rfl ?_
  refine L.known (t := 99) rfl (show _ = Value.bool true from rfl) ?_
  refine L.guardT (dj := 99) rfl rfl rfl ?_
  refine L.move rfl rfl ?_
  refine L.guardT (dj := 99) rfl rfl rfl ?_
  refine L.nilCheck rfl rfl ?_
  refine L.guardT (dj := 99) rfl rfl rfl ?_
  first | refine L.field0 rfl fo54_0 rfl ?_ | refine L.field rfl fo54_0 rfl ?_
  refine L.guardT (dj := 99) rfl rfl rfl ?_
  refine L.load rfl sc49 rfl qC ?_
  refine L.guardT (dj := 99) rfl rfl rfl ?_
  refine L.callF rfl (evs.cons rfl <| evs.cons rfl <| evs.nil) qD qS (score_spec) (by rintro u D1 M1 ⟨rfl, rfl, rfl⟩; exact ⟨rfl, _, qA, qF⟩) ?_
  rw [show ((zP, (7 : Int), [(((chW m, 7, 2, t + 6)) : Ord)], sF (t + 6), ([] : List (LK × Int))) : BlkR).2.2.2.1 = sF (t + 6) from rfl, sF_4]
  refine L.guardT (dj := 99) rfl rfl rfl ?_
  refine L.eqI rfl rfl rfl ?_
  refine L.pickT rfl rfl rfl ?_
  refine L.assign rfl rfl ?_
  refine L.nil ?_
  refine T.thenN ?_
  refine T.ret ?_
  exact T.ret1 rfl rfl ⟨rfl, rfl, rfl⟩ qD qF
end Cv
