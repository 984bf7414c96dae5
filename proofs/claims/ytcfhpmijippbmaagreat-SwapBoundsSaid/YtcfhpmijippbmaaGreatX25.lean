/-
  The walks: asking.
-/
import Derived.Test.YtcfhpmijippbmaaGreatW25
import Derived.Test.YtcfhpmijippbmaaGreatProg
import Derived.KernelRfl
set_option linter.unusedVariables false
set_option linter.unusedSimpArgs false
set_option linter.unusedSectionVars false
set_option maxRecDepth 10000
namespace Cv
open Go Go.Proofs
theorem el77 : El Tryz.prog 77 40 136 := ⟨_, _, rfl, rfl, by kernel_rfl, by kernel_rfl, by kernel_rfl⟩
theorem sz52 : Sz Tryz.prog 52 34 := fun w => by kernel_rfl
theorem fo59_5 : Fo Tryz.prog 59 5 5 := fun a w => by kernel_rfl
theorem bu96 : Bu Tryz.prog 96 (Value.int .i64 0 :: Value.int .u8 0 :: Value.int .u8 0 :: Value.int .u8 0 :: Value.int .u8 0 :: Value.int .u8 0 :: Value.int .u8 0 :: Value.int .u8 0 :: Value.int .u8 0 :: Value.int .u8 0 :: Value.int .u8 0 :: Value.int .u8 0 :: Value.int .u8 0 :: Value.int .u8 0 :: Value.int .u8 0 :: Value.int .u8 0 :: Value.int .u8 0 :: Value.int .u8 0 :: Value.int .u8 0 :: Value.int .u8 0 :: Value.int .u8 0 :: Value.int .u8 0 :: Value.int .u8 0 :: Value.int .u8 0 :: Value.int .u8 0 :: Value.int .u8 0 :: Value.int .u8 0 :: Value.int .u8 0 :: Value.int .u8 0 :: Value.int .u8 0 :: Value.int .u8 0 :: Value.int .u8 0 :: Value.int .u8 0 :: Value.int .i64 0 :: Value.int .i64 0 :: Value.int .i64 0 :: Value.int .i64 0 :: []) (fun (i : Nat) => ([(0, 34), (34, 1), (35, 1), (36, 1)] : List (Nat × Nat))[i]?) := bu_of Tryz.underlying96 zv96 rfl (fun w => by kernel_rfl)
theorem bs56 : Bs Tryz.prog 56 96 37 (Value.int .i64 0 :: Value.int .u8 0 :: Value.int .u8 0 :: Value.int .u8 0 :: Value.int .u8 0 :: Value.int .u8 0 :: Value.int .u8 0 :: Value.int .u8 0 :: Value.int .u8 0 :: Value.int .u8 0 :: Value.int .u8 0 :: Value.int .u8 0 :: Value.int .u8 0 :: Value.int .u8 0 :: Value.int .u8 0 :: Value.int .u8 0 :: Value.int .u8 0 :: Value.int .u8 0 :: Value.int .u8 0 :: Value.int .u8 0 :: Value.int .u8 0 :: Value.int .u8 0 :: Value.int .u8 0 :: Value.int .u8 0 :: Value.int .u8 0 :: Value.int .u8 0 :: Value.int .u8 0 :: Value.int .u8 0 :: Value.int .u8 0 :: Value.int .u8 0 :: Value.int .u8 0 :: Value.int .u8 0 :: Value.int .u8 0 :: Value.int .i64 0 :: Value.int .i64 0 :: Value.int .i64 0 :: Value.int .i64 0 :: []) := bs_of Tryz.underlying56 (fun w => by kernel_rfl) zv96 rfl rfl (by decide)
theorem fo52_0 : Fo Tryz.prog 52 0 0 := fun a w => by kernel_rfl
theorem bs72 : Bs Tryz.prog 72 77 40 (Value.int .i64 0 :: Value.int .i64 0 :: Value.int .i64 0 :: Value.int .i64 0 :: Value.int .u8 0 :: Value.int .u8 0 :: Value.int .u8 0 :: Value.int .u8 0 :: Value.int .u8 0 :: Value.int .u8 0 :: Value.int .u8 0 :: Value.int .u8 0 :: Value.int .u8 0 :: Value.int .u8 0 :: Value.int .u8 0 :: Value.int .u8 0 :: Value.int .u8 0 :: Value.int .u8 0 :: Value.int .u8 0 :: Value.int .u8 0 :: Value.int .u8 0 :: Value.int .u8 0 :: Value.int .u8 0 :: Value.int .u8 0 :: Value.int .u8 0 :: Value.int .u8 0 :: Value.int .u8 0 :: Value.int .u8 0 :: Value.int .u8 0 :: Value.int .u8 0 :: Value.int .u8 0 :: Value.int .u8 0 :: Value.int .u8 0 :: Value.int .u8 0 :: Value.int .u8 0 :: Value.int .u8 0 :: Value.int .i64 0 :: S [] :: Value.slice none 0 0 :: Value.slice none 0 0 :: []) := bs_of Tryz.underlying72 (fun w => by kernel_rfl) zv77 rfl rfl (by decide)
set_option maxHeartbeats 1000000 in
theorem askW_spec {b bb q on oc lm : Nat} {o sq : Int} {oa : Option Addr} {ol : List Ord} {F : Int → Mind} {lk : List (LK × Int)} {now : Int} {ha wa : Option Addr} {hn hc wn wc : Nat} {hs : List Int} {ws : List Wnt} (hhn : hn ≤ 12) (hon : on ≤ 1000) (hwn : wn ≤ 1000) (hsq : 0 ≤ sq ∧ sq ≤ 1000000) : Spec Tryz.prog 18 [.pointer (some ⟨b, 0, none⟩), .int .i64 now, .slice ha hn hc, .slice wa wn wc] [rsl 1 ha hn hc (hs.map e3), rsl 34 wa wn wc (ws.map wC)] [cl b 59 (swC bb q o oa on oc lm sq), own 37 96 oa on oc ((ol).map oC), bookA bb F, mp lm lkK iK lk] (fun v D' M' => ∃ (a' oa' : Option Addr) (n' c' on' oc' : Nat) (sq' : Int) (ol' out : List Ord), v = .slice a' n' c' ∧ (AskR F hs now o lk ws ol sq [] ol' sq' out) ∧ (out.length = n') ∧ (ol'.length = on') ∧ D' = [] ∧ M' = [cl b 59 (swC bb q o oa' on' oc' lm sq'), own 37 96 oa' on' oc' ((ol').map oC), bookA bb F, mp lm lkK iK lk, own 40 77 a' n' c' (out.map (lR o))]) := by
  refine Spec.intro (n := 85) Tryz.func18 rfl rfl (by decide) (Nat.le_of_ble_eq_true rfl) rfl (fun _ => qA) (fun _ => qA) ?_
  intro σ D M
  refine T.ownLen (rows := ol.map oC) qM (fun hLl hLc => ?_)
  rw [List.length_map] at hLl
  refine T.rslLen2 (rows := ws.map wC) qM (fun hwl0 hwc0 => ?_)
  rw [List.length_map] at hwl0
  refine T.seq ?_
  refine T.region ?_
  refine L.assign rfl rfl ?_
  refine L.nil ?_
  refine T.thenN ?_
  refine T.seq ?_
  refine T.region ?_
  refine L.assign rfl rfl ?_
  refine L.nil ?_
  refine T.newOwn (sz := 40) (e := 77) ?_
  refine T.thenN ?_
  refine T.seq ?_
  refine T.seq ?_
  refine T.region ?_
  refine L.move rfl rfl ?_
  refine L.lenSl rfl Tryz.underlying42 rfl ?_
  refine L.move rfl rfl ?_
  refine L.nil ?_
  refine T.thenN ?_
  refine T.block ?_
  refine T.eqv qP (show own 40 77 none 0 0 [] = own 40 77 none 0 0 (([] : List Ord).map (lR o)) from rfl) ?_
  refine T.loop (fun K' D' M' μ => ∃ (i : Nat) (a9 oa1 : Option Addr) (n9 c9 on1 oc1 : Nat) (sq1 : Int) (ol1 out : List Ord), ((i ≤ wn ∧ n9 ≤ i ∧ on1 ≤ on + i ∧ 0 ≤ sq1 ∧ sq1 ≤ sq + i) ∧ (ol1.length = on1 ∧ out.length = n9) ∧ ∀ l s u, AskR F hs now o lk (ws.drop i) ol1 sq1 out l s u → AskR F hs now o lk ws ol sq [] l s u) ∧ K' = [(16, .int .i64 i), (9, .slice a9 n9 c9)] ∧ D' = [] ∧ M' = [cl b 59 (swC bb q o oa1 on1 oc1 lm sq1), own 37 96 oa1 on1 oc1 ((ol1).map oC), own 40 77 a9 n9 c9 (out.map (lR o))] ∧ μ = wn - i) (.cons (t := 0) rfl <| .cons (t := 1) rfl <| .cons (t := 2) rfl <| .cons (t := 14) rfl <| .cons (t := 15) rfl <| SubK.nil _) (⟨0, none, oa, 0, 0, on, oc, sq, ol, [], ⟨by omega, ⟨hLl, rfl⟩, fun l s u h => by rwa [List.drop_zero] at h⟩, rfl, rfl, rfl, rfl⟩) (.cons (t := 16) rfl <| .cons (t := 9) rfl <| SubK.nil _) qD qS ?_
  rintro K1 D1 M1 m1 ⟨i, a9, oa1, n9, c9, on1, oc1, sq1, ol1, out, ⟨⟨hi, hi9, hon1, hsq1, hsq2⟩, ⟨hol1, hout⟩, hI⟩, rfl, rfl, rfl, rfl⟩
  refine T.norm3 qA qA qA ?_
  refine T.seq ?_
  refine T.region ?_
  refine L.ltI rfl rfl rfl ?_
  refine L.nil ?_
  refine T.thenN ?_
  refine T.seq ?_
  refine T.cond rfl (fun h17 => ?_) (fun h17 => ?_)
  · try simp only [decide_eq_true_eq, decide_eq_false_iff_not, Bool.not_eq_true', Bool.not_eq_false', Bool.and_eq_true, Bool.or_eq_true] at h17
    refine T.skip ?_
    refine T.thenN ?_
    refine T.seq ?_
    refine T.block ?_
    refine T.seq ?_
    have hgi : ws[i]? = some (gd ws i) := gd_get (by omega)
    obtain ⟨w, hw_⟩ : ∃ x, x = gd ws i := ⟨_, rfl⟩
    rw [← hw_] at hgi
    have hwl := wC_len w
    have hw32 := w.2.1.2
    rw [drop_cons hgi] at hI
    refine T.region ?_
    refine L.idx (i := i) rfl Tryz.underlying42 sz52 rfl rfl qM (by first | rfl | omega | (simp; done)) qG (fun b18 o18 => ?_)
    refine L.loadA rfl ag52 rfl (CellsN.ofD qM (wC_len _)) ?_
    refine L.alloc rfl ze52 (fun b11 => ?_)
    refine L.storeA ag52 rfl rfl qL qO qU qW ?_
    refine L.nil ?_
    refine T.thenN ?_
    refine T.seq ?_
    refine T.seq ?_
    refine T.region ?_
    refine L.move rfl rfl ?_
    refine L.nilCheck rfl rfl ?_
    first | refine L.field0 rfl fo59_3 rfl ?_ | refine L.field rfl fo59_3 rfl ?_
    refine L.load rfl sc56 rfl qC ?_
    refine L.lenSl rfl Tryz.underlying56 rfl ?_
    refine L.geI rfl rfl rfl ?_
    refine L.nil ?_
    refine T.thenN ?_
    refine T.cond rfl (fun h25 => ?_) (fun h25 => ?_)
    · try simp only [decide_eq_true_eq, decide_eq_false_iff_not, Bool.not_eq_true', Bool.not_eq_false', Bool.and_eq_true, Bool.or_eq_true] at h25
      have hfin := hI _ _ _ (AskR.stop (by omega))
      refine T.exit ?_
      refine T.thenX ?_
      refine T.blkY rfl ?_
      refine T.thenX ?_
      refine T.thenX ?_
      refine T.blkX ?_
      refine T.thenN ?_
      refine T.seq ?_
      refine T.region ?_
      refine L.move rfl rfl ?_
      refine L.assign rfl rfl ?_
      refine L.nil ?_
      refine T.thenN ?_
      refine T.ret ?_
      exact T.ret1 rfl rfl ⟨_, _, _, _, _, _, _, _, _, rfl, hfin, hout, hol1, rfl, rfl⟩ qD qF
    · try simp only [decide_eq_true_eq, decide_eq_false_iff_not, Bool.not_eq_true', Bool.not_eq_false', Bool.and_eq_true, Bool.or_eq_true] at h25
      refine T.skip ?_
      refine T.thenN ?_
      refine T.seq ?_
      refine T.seq ?_
      refine T.region ?_
      refine L.move rfl rfl ?_
      refine L.nilCheck rfl rfl ?_
      first | refine L.field0 rfl fo59_3 rfl ?_ | refine L.field rfl fo59_3 rfl ?_
      refine L.load rfl sc56 rfl qC ?_
      refine L.makeFunc rfl (evs.cons rfl <| evs.nil) ?_
      refine L.callB1 (A := own 37 96 oa1 on1 oc1 ((ol1).map oC)) rfl (evs.cons rfl <| evs.cons rfl <| evs.nil) qS qP (fun z H => rsl_of_own H) (cono_spec (g := 36) (St := Unit) (Ac := fun _ => cl b11 52 (wC w)) (p := fun x => decide (x.1.2.1.1 = w.2.1.1)) (st := fun s _ => s) (s := ()) (caps := [.pointer (some ⟨b11, 0, none⟩)]) (xs := ol1) (fun _ x _ => ask1_spec (bw := b11) (w := w) (x := x)) (by omega)) ?_
      rintro _ _ _ ⟨rfl, rfl, rfl⟩
      refine L.norm AppL.nil qA ?_
      refine L.nil ?_
      refine T.thenN ?_
      refine T.cond rfl (fun h31 => ?_) (fun h31 => ?_)
      · try simp only [decide_eq_true_eq, decide_eq_false_iff_not, Bool.not_eq_true', Bool.not_eq_false', Bool.and_eq_true, Bool.or_eq_true] at h31
        obtain ⟨x, hx1, hx2⟩ := idxQ_ge.1 h31
        have hskip := fun l s u (h : AskR F hs now o lk (ws.drop (i + 1)) ol1 sq1 out l s u) => hI _ _ _ (AskR.skip (by omega) (.inl ⟨x, hx1, of_decide_eq_true hx2⟩) h)
        refine T.exit ?_
        refine T.thenX ?_
        refine T.blkX ?_
        refine T.thenN ?_
        refine T.region ?_
        refine L.addN rfl rfl rfl (by omega) ?_
        refine L.move rfl rfl ?_
        refine L.nil ?_
        refine T.thenN ?_
        exact T.back ⟨i + 1, a9, oa1, n9, c9, on1, oc1, sq1, ol1, out, ⟨by omega, ⟨hol1, hout⟩, hskip⟩, rfl, rfl, rfl, rfl⟩ qI (.cons (t := 16) rfl <| .cons (t := 9) rfl <| SubK.nil _) (.cons (t := 0) rfl <| .cons (t := 1) rfl <| .cons (t := 2) rfl <| .cons (t := 14) rfl <| .cons (t := 15) rfl <| SubK.nil _) qD qD qF
      · try simp only [decide_eq_true_eq, decide_eq_false_iff_not, Bool.not_eq_true', Bool.not_eq_false', Bool.and_eq_true, Bool.or_eq_true] at h31
        have hnone : ∀ x ∈ ol1, x.1.2.1.1 ≠ w.2.1.1 := fun x hx e => h31 (idxQ_ge.2 ⟨x, hx, decide_eq_true e⟩)
        refine T.skip ?_
        refine T.thenN ?_
        refine T.seq ?_
        refine T.region ?_
        refine L.move rfl rfl ?_
        refine L.loadA rfl ag52 rfl qN ?_
        refine L.move rfl rfl ?_
        refine L.move rfl rfl ?_
        refine L.call rfl (evs.cons rfl <| evs.cons rfl <| evs.cons rfl <| evs.cons rfl <| evs.nil) qD qS (whom_spec (b := b) (bb := bb) (q := q) (o := o) (oa := oa1) (on := on1) (oc := oc1) (lm := lm) (sq := sq1) (ol := ol1) (F := F) (lk := lk) (w := w) (now := now) (hs := hs) hhn (by omega)) ?_
        rintro _ _ _ ⟨n, ok, rfl, hW, rfl, rfl⟩
        refine L.norm qA qA ?_
        refine L.move rfl rfl ?_
        refine L.extract rfl rfl rfl ?_
        refine L.extract rfl rfl rfl ?_
        refine L.assign rfl rfl ?_
        refine L.assign rfl rfl ?_
        refine L.nil ?_
        refine T.thenN ?_
        refine T.seq ?_
        refine T.seq ?_
        refine T.region ?_
        refine L.move rfl rfl ?_
        refine L.notB rfl rfl ?_
        refine L.nil ?_
        refine T.thenN ?_
        refine T.cond rfl (fun h41 => ?_) (fun h41 => ?_)
        · try simp only [decide_eq_true_eq, decide_eq_false_iff_not, Bool.not_eq_true', Bool.not_eq_false', Bool.and_eq_true, Bool.or_eq_true] at h41
          have hokf : ok = false := by simpa using h41
          subst hokf
          have hskip := fun l s u (h : AskR F hs now o lk (ws.drop (i + 1)) ol1 sq1 out l s u) => hI _ _ _ (AskR.skip (by omega) (.inr ⟨n, hW⟩) h)
          refine T.exit ?_
          refine T.thenX ?_
          refine T.blkX ?_
          refine T.thenN ?_
          refine T.region ?_
          refine L.addN rfl rfl rfl (by omega) ?_
          refine L.move rfl rfl ?_
          refine L.nil ?_
          refine T.thenN ?_
          exact T.back ⟨i + 1, a9, oa1, n9, c9, on1, oc1, sq1, ol1, out, ⟨by omega, ⟨hol1, hout⟩, hskip⟩, rfl, rfl, rfl, rfl⟩ qI (.cons (t := 16) rfl <| .cons (t := 9) rfl <| SubK.nil _) (.cons (t := 0) rfl <| .cons (t := 1) rfl <| .cons (t := 2) rfl <| .cons (t := 14) rfl <| .cons (t := 15) rfl <| SubK.nil _) qD qD qF
        · try simp only [decide_eq_true_eq, decide_eq_false_iff_not, Bool.not_eq_true', Bool.not_eq_false', Bool.and_eq_true, Bool.or_eq_true] at h41
          have hokt : ok = true := by simpa using h41
          subst hokt
          have hask := fun l s u (h : AskR F hs now o lk (ws.drop (i + 1)) (ol1 ++ [(w, n, sq1 + 1, now)]) (sq1 + 1) (out ++ [(w, n, sq1 + 1, now)]) l s u) => hI _ _ _ (AskR.ask (by omega) hnone hW h)
          refine T.skip ?_
          refine T.thenN ?_
          refine T.seq ?_
          refine T.region ?_
          refine L.move rfl rfl ?_
          refine L.nilCheck rfl rfl ?_
          first | refine L.field0 rfl fo59_5 rfl ?_ | refine L.field rfl fo59_5 rfl ?_
          refine L.load rfl sc3 rfl qC ?_
          refine L.addN rfl rfl rfl (by omega) ?_
          refine L.nilCheck rfl rfl ?_
          first | refine L.field0 rfl fo59_5 rfl ?_ | refine L.field rfl fo59_5 rfl ?_
          refine L.store sc3 rfl rfl rfl qU qE ?_
          refine L.nil ?_
          refine T.thenN ?_
          refine T.seq ?_
          refine T.regionA (clsL [1, 1, 0, 1, 0, 0, 1, 1, 0, 1, 0, 1, 1, 0, 2, 2, 1, 2]) (by kernel_rfl) ?_
          refine A.takeP (i := 0) rfl rfl rfl rfl (by kernel_rfl) (by kernel_rfl) (by kernel_rfl) rfl qD ?_
          refine L.move rfl rfl ?_
          refine A.took ?_
          refine A.takeP (i := 1) rfl rfl rfl rfl (by kernel_rfl) (by kernel_rfl) (by kernel_rfl) rfl qD ?_
          refine L.move rfl rfl ?_
          refine A.took ?_
          refine A.takeP (i := 6) rfl rfl rfl rfl (by kernel_rfl) (by kernel_rfl) (by kernel_rfl) rfl qD ?_
          refine L.move rfl rfl ?_
          refine A.took ?_
          refine A.takeP (i := 7) rfl rfl rfl rfl (by kernel_rfl) (by kernel_rfl) (by kernel_rfl) rfl qD ?_
          refine L.move rfl rfl ?_
          refine A.took ?_
          refine A.takeP (i := 11) rfl rfl rfl rfl (by kernel_rfl) (by kernel_rfl) (by kernel_rfl) rfl qD ?_
          refine L.move rfl rfl ?_
          refine A.took ?_
          refine A.nilCheck (i := 2) rfl rfl (by kernel_rfl) (by kernel_rfl) (by kernel_rfl) (by kernel_rfl) rfl qD qF rfl ?_
          refine A.takeP (i := 3) rfl rfl rfl rfl (by kernel_rfl) (by kernel_rfl) (by kernel_rfl) rfl qD ?_
          first | refine L.field0 rfl fo59_3 rfl ?_ | refine L.field rfl fo59_3 rfl ?_
          refine A.took ?_
          refine A.take (i := 4) rfl rfl rfl rfl (by kernel_rfl) (by kernel_rfl) (by kernel_rfl) (by kernel_rfl) rfl qD qF ?_
          refine L.load rfl sc56 rfl qC ?_
          refine A.took ?_
          refine A.take (i := 5) rfl rfl rfl rfl (by kernel_rfl) (by kernel_rfl) (by kernel_rfl) (by kernel_rfl) rfl qD qF ?_
          refine L.loadA rfl ag52 rfl qN ?_
          refine A.took ?_
          refine A.nilCheck (i := 8) rfl rfl (by kernel_rfl) (by kernel_rfl) (by kernel_rfl) (by kernel_rfl) rfl qD qF rfl ?_
          refine A.takeP (i := 9) rfl rfl rfl rfl (by kernel_rfl) (by kernel_rfl) (by kernel_rfl) rfl qD ?_
          first | refine L.field0 rfl fo59_5 rfl ?_ | refine L.field rfl fo59_5 rfl ?_
          refine A.took ?_
          refine A.take (i := 10) rfl rfl rfl rfl (by kernel_rfl) (by kernel_rfl) (by kernel_rfl) (by kernel_rfl) rfl qD qF ?_
          refine L.load rfl sc3 rfl qC ?_
          refine A.took ?_
          refine A.takeP (i := 12) rfl rfl rfl rfl (by kernel_rfl) (by kernel_rfl) (by kernel_rfl) rfl qD ?_
          refine L.build rfl bu96 (BP.agg rfl rfl (by first | with_reducible assumption | (simp; done) | (simp only [List.length_map]; with_reducible assumption) | (simp [*]; done) | rfl) (Nat.le_of_ble_eq_true rfl) qR <| BP.one rfl rfl rfl <| BP.one rfl rfl rfl <| BP.one rfl rfl rfl <| BP.doneE (out := []) rfl) ?_
          refine L.known (t := 61) (u := .agg (oC (w, n, sq1 + 1, now)).toArray) rfl (by simp [oC, wC]) ?_
          have hxl := oC_len (w, n, sq1 + 1, now)
          refine A.took ?_
          refine A.branch (is := [13]) (by kernel_rfl) (by decide) (Each.cons rfl ?_ <| Each.nil) 
          refine L.buildSlice rfl bs56 (by decide) (BP.agg rfl rfl (by first | with_reducible assumption | (simp; done) | (simp only [List.length_map]; with_reducible assumption) | (simp [*]; done) | rfl) (Nat.le_of_ble_eq_true rfl) qR <| BP.doneE (out := []) rfl) (fun b62 => ?_)
          refine A.back rfl qD qF ?_
          refine A.branch (is := [14]) (by kernel_rfl) (by decide) (Each.cons rfl ?_ <| Each.nil) 
          refine L.append1 rfl Tryz.underlying56 el96 rfl rfl qP qM (by rw [List.append_nil]; exact oC_len _) (fun u hu => by rw [List.append_nil] at hu; exact one_ord1 u hu) qI qI (fun a63 c63 => ?_)
          refine A.backT rfl qD ?_
          refine A.branch (is := [15]) (by kernel_rfl) (by decide) (Each.cons rfl ?_ <| Each.nil) 
          refine L.nilCheck rfl rfl ?_
          refine A.backT rfl qD ?_
          refine A.takeP (i := 16) rfl rfl rfl rfl (by kernel_rfl) (by kernel_rfl) (by kernel_rfl) rfl qD ?_
          first | refine L.field0 rfl fo59_3 rfl ?_ | refine L.field rfl fo59_3 rfl ?_
          refine A.took ?_
          refine A.branch (is := [17]) (by kernel_rfl) (by decide) (Each.cons rfl ?_ <| Each.nil) 
          refine L.store sc56 rfl rfl rfl qU qE ?_
          refine A.backT rfl qD ?_
          refine A.done (by kernel_rfl) ?_
          refine T.ownEq _ ((ol1 ++ [(w, n, sq1 + 1, now)]).map oC) qP (by rw [List.append_nil, List.map_append]; rfl) ?_
          refine T.thenN ?_
          refine T.regionA (clsL [1, 1, 0, 1, 0, 1, 1, 0, 1, 0, 1, 0, 1, 0, 1, 2, 2, 1]) (by kernel_rfl) ?_
          refine A.takeP (i := 0) rfl rfl rfl rfl (by kernel_rfl) (by kernel_rfl) (by kernel_rfl) rfl qD ?_
          refine L.move rfl rfl ?_
          refine A.took ?_
          refine A.takeP (i := 1) rfl rfl rfl rfl (by kernel_rfl) (by kernel_rfl) (by kernel_rfl) rfl qD ?_
          refine L.move rfl rfl ?_
          refine A.took ?_
          refine A.takeP (i := 5) rfl rfl rfl rfl (by kernel_rfl) (by kernel_rfl) (by kernel_rfl) rfl qD ?_
          refine L.move rfl rfl ?_
          refine A.took ?_
          refine A.takeP (i := 6) rfl rfl rfl rfl (by kernel_rfl) (by kernel_rfl) (by kernel_rfl) rfl qD ?_
          refine L.move rfl rfl ?_
          refine A.took ?_
          refine A.takeP (i := 10) rfl rfl rfl rfl (by kernel_rfl) (by kernel_rfl) (by kernel_rfl) rfl qD ?_
          first | refine L.field0 rfl fo52_1 rfl ?_ | refine L.field rfl fo52_1 rfl ?_
          refine A.took ?_
          refine A.takeP (i := 12) rfl rfl rfl rfl (by kernel_rfl) (by kernel_rfl) (by kernel_rfl) rfl qD ?_
          first | refine L.field0 rfl fo52_0 rfl ?_ | refine L.field rfl fo52_0 rfl ?_
          refine A.took ?_
          refine A.nilCheck (i := 2) rfl rfl (by kernel_rfl) (by kernel_rfl) (by kernel_rfl) (by kernel_rfl) rfl qD qF rfl ?_
          refine A.takeP (i := 3) rfl rfl rfl rfl (by kernel_rfl) (by kernel_rfl) (by kernel_rfl) rfl qD ?_
          first | refine L.field0 rfl fo59_2 rfl ?_ | refine L.field rfl fo59_2 rfl ?_
          refine A.took ?_
          refine A.take (i := 4) rfl rfl rfl rfl (by kernel_rfl) (by kernel_rfl) (by kernel_rfl) (by kernel_rfl) rfl qD qF ?_
          refine L.load rfl sc3 rfl qC ?_
          refine A.took ?_
          refine A.nilCheck (i := 7) rfl rfl (by kernel_rfl) (by kernel_rfl) (by kernel_rfl) (by kernel_rfl) rfl qD qF rfl ?_
          refine A.takeP (i := 8) rfl rfl rfl rfl (by kernel_rfl) (by kernel_rfl) (by kernel_rfl) rfl qD ?_
          first | refine L.field0 rfl fo59_5 rfl ?_ | refine L.field rfl fo59_5 rfl ?_
          refine A.took ?_
          refine A.take (i := 9) rfl rfl rfl rfl (by kernel_rfl) (by kernel_rfl) (by kernel_rfl) (by kernel_rfl) rfl qD qF ?_
          refine L.load rfl sc3 rfl qC ?_
          refine A.took ?_
          refine A.take (i := 11) rfl rfl rfl rfl (by kernel_rfl) (by kernel_rfl) (by kernel_rfl) (by kernel_rfl) rfl qD qF ?_
          refine L.loadA rfl ag50 rfl qN ?_
          refine A.took ?_
          refine A.take (i := 13) rfl rfl rfl rfl (by kernel_rfl) (by kernel_rfl) (by kernel_rfl) (by kernel_rfl) rfl qD qF ?_
          refine L.load rfl sc3 rfl qC ?_
          refine A.took ?_
          refine A.takeP (i := 14) rfl rfl rfl rfl (by kernel_rfl) (by kernel_rfl) (by kernel_rfl) rfl qD ?_
          refine L.build rfl bu77 (BP.one rfl rfl rfl <| BP.one rfl rfl rfl <| BP.one rfl rfl rfl <| BP.one rfl rfl rfl <| BP.agg rfl rfl (by first | with_reducible assumption | (simp; done) | (simp only [List.length_map]; with_reducible assumption) | (simp [*]; done) | rfl) (Nat.le_of_ble_eq_true rfl) qR <| BP.one rfl rfl rfl <| BP.doneE (out := [S [], Value.slice none 0 0, Value.slice none 0 0]) rfl) ?_
          refine L.known (t := 80) (u := .agg (lR o (w, n, sq1 + 1, now)).toArray) rfl (by first | rfl | simp [lR]) ?_
          have hll := @lR_len o (w, n, sq1 + 1, now)
          refine A.took ?_
          refine A.branch (is := [15]) (by kernel_rfl) (by decide) (Each.cons rfl ?_ <| Each.nil) 
          refine L.buildSlice rfl bs72 (by decide) (BP.agg rfl rfl (by first | with_reducible assumption | (simp; done) | (simp only [List.length_map]; with_reducible assumption) | (simp [*]; done) | rfl) (Nat.le_of_ble_eq_true rfl) qR <| BP.doneE (out := []) rfl) (fun b81 => ?_)
          refine A.backT rfl qD ?_
          refine A.branch (is := [16]) (by kernel_rfl) (by decide) (Each.cons rfl ?_ <| Each.nil) 
          refine L.append1 rfl Tryz.underlying72 el77 rfl rfl qP qM (by rw [List.append_nil]; exact lR_len (o := o) (x := (w, n, sq1 + 1, now))) (fun u hu => by rw [List.append_nil] at hu; exact one_let (o := o) (x := (w, n, sq1 + 1, now)) u hu) qI qI (fun a82 c82 => ?_)
          refine A.backT rfl qD ?_
          refine A.takeP (i := 17) rfl rfl rfl rfl (by kernel_rfl) (by kernel_rfl) (by kernel_rfl) rfl qD ?_
          refine L.assign rfl rfl ?_
          refine A.took ?_
          refine A.done (by kernel_rfl) ?_
          refine T.ownEq a82 ((out ++ [(w, n, sq1 + 1, now)]).map (lR o)) qP (by rw [List.append_nil, List.map_append]; rfl) ?_
          refine T.blkN ?_
          refine T.thenN ?_
          refine T.region ?_
          refine L.addN rfl rfl rfl (by omega) ?_
          refine L.move rfl rfl ?_
          refine L.nil ?_
          refine T.thenN ?_
          exact T.back ⟨i + 1, _, _, n9 + 1, _, on1 + 1, _, sq1 + 1, ol1 ++ [(w, n, sq1 + 1, now)], out ++ [(w, n, sq1 + 1, now)], ⟨by omega, ⟨by rw [List.length_append, hol1]; rfl, by rw [List.length_append, hout]; rfl⟩, hask⟩, rfl, rfl, rfl, rfl⟩ qI (.cons (t := 16) rfl <| .cons (t := 9) rfl <| SubK.nil _) (.cons (t := 0) rfl <| .cons (t := 1) rfl <| .cons (t := 2) rfl <| .cons (t := 14) rfl <| .cons (t := 15) rfl <| SubK.nil _) qD qD qF
  · try simp only [decide_eq_true_eq, decide_eq_false_iff_not, Bool.not_eq_true', Bool.not_eq_false', Bool.and_eq_true, Bool.or_eq_true] at h17
    obtain rfl : wn = i := by omega
    rw [List.drop_eq_nil_of_le (by omega)] at hI
    have hfin := hI _ _ _ AskR.nil
    refine T.exit ?_
    refine T.thenX ?_
    refine T.thenX ?_
    refine T.blkX ?_
    refine T.thenN ?_
    refine T.seq ?_
    refine T.region ?_
    refine L.move rfl rfl ?_
    refine L.assign rfl rfl ?_
    refine L.nil ?_
    refine T.thenN ?_
    refine T.ret ?_
    exact T.ret1 rfl rfl ⟨_, _, _, _, _, _, _, _, _, rfl, hfin, hout, hol1, rfl, rfl⟩ qD qF
end Cv
