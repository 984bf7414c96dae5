/-
  The walks: the reference asks.
-/
import Derived.Test.YtcfhpmijippbmaaGreatRb25
import Derived.Test.YtcfhpmijippbmaaGreatProg
import Derived.KernelRfl
set_option linter.unusedVariables false
set_option linter.unusedSimpArgs false
set_option linter.unusedSectionVars false
set_option maxRecDepth 10000
namespace Cv
open Go Go.Proofs
def askF (F : Int → Mind) (hs : List Int) (now o : Int) (ll : List (LK × Int)) : List Wnt → List Ord → Int → List Ord → List Ord × Int × List Ord
  | [], ol, sq, out => (ol, sq, out)
  | w :: ws, ol, sq, out => if 8 ≤ ol.length ∨ ordB ol w.2.1 = true ∨ refW F hs now o ol ll w.2.1 < 0 then askF F hs now o ll ws ol sq out else askF F hs now o ll ws (ol ++ [(w, refW F hs now o ol ll w.2.1, sq + 1, now)]) (sq + 1) (out ++ [(w, refW F hs now o ol ll w.2.1, sq + 1, now)])
theorem ask_no {F : Int → Mind} {hs : List Int} {now o sq : Int} {ll : List (LK × Int)} {w : Wnt} {ws : List Wnt} {ol out : List Ord} (h : 8 ≤ ol.length ∨ ordB ol w.2.1 = true ∨ refW F hs now o ol ll w.2.1 < 0) : askF F hs now o ll (w :: ws) ol sq out = askF F hs now o ll ws ol sq out := by
  rw [askF, if_pos h]
theorem ask_yes {F : Int → Mind} {hs : List Int} {now o sq n : Int} {ll : List (LK × Int)} {w : Wnt} {ws : List Wnt} {ol out : List Ord} (h1 : ol.length < 8) (h2 : ordB ol w.2.1 = false) (hn : n = refW F hs now o ol ll w.2.1) (h3 : 0 ≤ n) : askF F hs now o ll (w :: ws) ol sq out = askF F hs now o ll ws (ol ++ [(w, n, sq + 1, now)]) (sq + 1) (out ++ [(w, n, sq + 1, now)]) := by
  subst hn
  rw [askF, if_neg]
  rintro (h | h | h)
  · omega
  · rw [h2] at h; cases h
  · omega
abbrev RBlk := List Ord × List (LK × Int) × List (Int × Mind) × Int
def rblkF (ol : List Ord) (ll : List (LK × Int)) (ml : List (Int × Mind)) (i : Int) (tx : List UInt8) (now : Int) : RBlk :=
  if i < 0 then (ol, ll, ml, 7) else
  if oidF (gd ol i.toNat).1.1 tx ≠ (gd ol i.toNat).1.2.1.1 then (ol.eraseIdx i.toNat, ll, banL ml (gd ol i.toNat).2.1 ((gd ol i.toNat).1.1, (gd ol i.toNat).1.2.1.1, tx), 3) else
  if (gd ol i.toNat).1.2.2 < tx.length then (ol.eraseIdx i.toNat, setK ll ((gd ol i.toNat).2.1, (gd ol i.toNat).1.2.1) (now + 12), ml, 5) else
  (ol.eraseIdx i.toNat, ll, setL ml (gd ol i.toNat).2.1 (goodM (atM ml (gd ol i.toNat).2.1)), 0)
theorem sil_ok {now : Int} (h0 : 0 ≤ now) (h9 : now ≤ 549755813888) : ∀ {xs : List Ord} {ml : List (Int × Mind)}, (∀ k, MOk (atM ml k)) → ∀ k, MOk (atM (xs.foldl (silL now) ml) k)
  | [], ml, h => h
  | x :: xs, ml, h => by
    refine sil_ok h0 h9 (xs := xs) (ml := silL now ml x) fun k => ?_
    unfold silL
    rw [atM_set]
    unfold updM
    split
    · exact silM_ok (h _) h0 h9
    · exact h k
theorem sil_len {now : Int} : ∀ {xs : List Ord} {ml : List (Int × Mind)}, (xs.foldl (silL now) ml).length ≤ ml.length + xs.length
  | [], ml => by simp
  | x :: xs, ml => by
    have h1 := sil_len (now := now) (xs := xs) (ml := silL now ml x)
    have h2 := @setL_len ml x.2.1 (silM (atM ml x.2.1) now)
    simp only [List.foldl_cons, List.length_cons]
    unfold silL at h1 ⊢
    omega
theorem delS_ok {now : Int} {p : Ord → Bool} (h0 : 0 ≤ now) (h9 : now ≤ 549755813888) {xs : List Ord} {ml : List (Int × Mind)} (h : ∀ k, MOk (atM ml k)) (k : Int) : MOk (atM (delS p (silL now) ml xs) k) := sil_ok h0 h9 h k
theorem delS_len {now : Int} {p : Ord → Bool} {xs : List Ord} {ml : List (Int × Mind)} : (delS p (silL now) ml xs).length ≤ ml.length + xs.length := by
  have h1 := sil_len (now := now) (xs := xs.filter p) (ml := ml)
  have h2 := List.length_filter_le p xs
  unfold delS; omega
def keepB (ws : List Wnt) (x : Ord) : Bool := ws.any fun w => decide (w.2.1.1 = x.1.2.1.1)
theorem any_s {α : Type} {p : α → Bool} {l : List α} {j : Nat} {x : α} (h : l[j]? = some x) : (l.take (j + 1)).any p = ((l.take j).any p || p x) := by
  rw [List.take_add_one, h, List.any_append]; simp
theorem sz45 : Sz Tryz.prog 45 3 := fun w => by kernel_rfl
theorem ag45 : Ag Tryz.prog 45 3 := fun w => ⟨by kernel_rfl, by kernel_rfl⟩
theorem zv45 : ∀ w, (zeroValue 45).run Tryz.prog w = .ok (Value.agg #[Value.int .i64 0, S [], Value.int .i64 0]) w := fun w => by kernel_rfl
theorem ze45 : Ze Tryz.prog 45 [Value.int .i64 0, S [], Value.int .i64 0] := ⟨_, rfl, zv45⟩
theorem fo34_1 : Fo Tryz.prog 34 1 1 := fun a w => by kernel_rfl
theorem bu47 : Bu Tryz.prog 47 [Value.int .i64 0, S [], Value.int .i64 0, Value.int .i64 0, Value.int .i64 0, Value.int .i64 0] (fun (i : Nat) => ([(0, 3), (3, 1), (4, 1), (5, 1)] : List (Nat × Nat))[i]?) := bu_of Tryz.underlying47 zv47 rfl (fun w => by kernel_rfl)
set_option maxHeartbeats 400000 in
theorem rscore_spec {o sq : Int} {oa la ma : Option Addr} {on oc ln lc mn mc : Nat} {ml : List (Int × Mind)} {n : Int} (hml : ml.length ≤ 1000) : Spec Tryz.prog 12 [.agg (xC o sq oa on oc la ln lc ma mn mc).toArray, .int .i64 n] [rsl 8 ma mn mc (ml.map rrow)] [] (fun v D' M' => v = .int .i64 (atM ml n).1 ∧ D' = [] ∧ M' = []) := by
  refine Spec.intro (n := 10) Tryz.func12 rfl rfl (by decide) (Nat.le_of_ble_eq_true rfl) rfl (fun _ => qA) (fun _ => qA) ?_
  intro σ D M
  refine T.seq ?_
  refine T.region ?_
  refine L.box rfl rfl rfl (fun b2 => ?_)
  refine L.assign rfl rfl ?_
  refine L.nil ?_
  refine T.thenN ?_
  refine T.seq ?_
  refine T.region ?_
  first | refine L.field0 rfl fo34_4 rfl ?_ | refine L.field rfl fo34_4 rfl ?_
  refine L.load rfl sc32 rfl qC ?_
  refine L.move rfl rfl ?_
  refine L.callF rfl (evs.cons rfl <| evs.cons rfl <| evs.nil) qD qS (rat_spec hml) (by rintro u D1 M1 ⟨rfl, rfl, rfl⟩; exact ⟨rfl, _, qA, qF⟩) ?_
  refine L.fieldV (off := 1) rfl Tryz.underlying108 rfl sc3 rfl rfl ?_
  refine L.assign rfl rfl ?_
  refine L.nil ?_
  refine T.thenN ?_
  refine T.ret ?_
  exact T.ret1 rfl rfl ⟨rfl, rfl, rfl⟩ qD qF
set_option maxHeartbeats 400000 in
theorem rmays_spec {o sq : Int} {oa la ma : Option Addr} {on oc ln lc mn mc : Nat} {ml : List (Int × Mind)} {n : Int} {now : Int} (hml : ml.length ≤ 1000) : Spec Tryz.prog 14 [.agg (xC o sq oa on oc la ln lc ma mn mc).toArray, .int .i64 n, .int .i64 now] [rsl 8 ma mn mc (ml.map rrow)] [] (fun v D' M' => v = .bool (mayB (atM ml) n now) ∧ D' = [] ∧ M' = []) := by
  refine Spec.intro (n := 12) Tryz.func14 rfl rfl (by decide) (Nat.le_of_ble_eq_true rfl) rfl (fun _ => qA) (fun _ => qA) ?_
  intro σ D M
  refine T.seq ?_
  refine T.region ?_
  refine L.box rfl rfl rfl (fun b3 => ?_)
  refine L.assign rfl rfl ?_
  refine L.nil ?_
  refine T.thenN ?_
  refine T.seq ?_
  refine T.region ?_
  first | refine L.field0 rfl fo34_4 rfl ?_ | refine L.field rfl fo34_4 rfl ?_
  refine L.load rfl sc32 rfl qC ?_
  refine L.move rfl rfl ?_
  refine L.move rfl rfl ?_
  refine L.callF rfl (evs.cons rfl <| evs.cons rfl <| evs.cons rfl <| evs.nil) qD qS (rmay_spec hml) (by rintro u D1 M1 ⟨rfl, rfl, rfl⟩; exact ⟨rfl, _, qA, qF⟩) ?_
  refine L.assign rfl rfl ?_
  refine L.nil ?_
  refine T.thenN ?_
  refine T.ret ?_
  exact T.ret1 rfl rfl ⟨rfl, rfl, rfl⟩ qD qF
set_option maxHeartbeats 1000000 in
theorem rask_spec {o sq : Int} {oa la ma : Option Addr} {on oc ln lc mn mc : Nat} {ol : List Ord} {ll : List (LK × Int)} {ml : List (Int × Mind)} {now : Int} {ha wa : Option Addr} {hn hc wn wc : Nat} {hs : List Int} {ws : List Wnt} (hon : on ≤ 1000) (hwn : wn ≤ 1000) (hsq : 0 ≤ sq ∧ sq ≤ 1000000) (hln : ln ≤ 1000000) (hml : ml.length ≤ 1000) (hhn : hs.length ≤ 1000) : Spec Tryz.prog 19 [.agg (xC o sq oa on oc la ln lc ma mn mc).toArray, .int .i64 now, .slice ha hn hc, .slice wa wn wc] [rsl 6 oa on oc (ol.map oR), rsl 3 la ln lc (ll.map kR), rsl 8 ma mn mc (ml.map rrow), rsl 1 ha hn hc (hs.map e3), rsl 3 wa wn wc (ws.map wR)] [] (fun v D' M' => ∃ (r : List Ord × Int × List Ord) (a1 a2 : Option Addr) (l1 c1 l2 c2 : Nat), v = .tuple #[.agg (xC o r.2.1 a1 l1 c1 la ln lc ma mn mc).toArray, .slice a2 l2 c2] ∧ (r = askF (atM ml) hs now o ll ws ol sq []) ∧ (r.1.length = l1) ∧ (r.2.2.length = l2) ∧ D' = [rsl 6 a1 l1 c1 (r.1.map oR), rsl 6 a2 l2 c2 (r.2.2.map oR)] ∧ M' = []) := by
  refine Spec.intro (n := 64) Tryz.func19 rfl rfl (by decide) (Nat.le_of_ble_eq_true rfl) rfl (fun _ => qA) (fun _ => qA) ?_
  intro σ D M
  refine T.rslLen2 (rows := ol.map oR) qM (fun hol hoc => ?_)
  rw [List.length_map] at hol
  refine T.rslLen2 (rows := ws.map wR) qM (fun hwl hwc => ?_)
  rw [List.length_map] at hwl
  refine T.seq ?_
  refine T.region ?_
  refine L.box rfl rfl rfl (fun b4 => ?_)
  refine L.alloc rfl ze34 (fun b8 => ?_)
  refine L.assign rfl rfl ?_
  refine L.nil ?_
  refine T.thenN ?_
  refine T.seq ?_
  refine T.region ?_
  refine L.buildSlice rfl bs30 (by decide) (BP.doneE (out := []) rfl) (fun b15 => ?_)
  refine L.toOwn (len := 0) qP (rows := ([] : List Ord).map oR) (sz := 6) (by rfl) rfl (by simp) ?_
  refine L.assign rfl rfl ?_
  refine L.nil ?_
  refine T.thenN ?_
  refine T.seq ?_
  refine T.seq ?_
  refine T.region ?_
  refine L.move rfl rfl ?_
  refine L.lenSl rfl Tryz.underlying68 rfl ?_
  refine L.move rfl rfl ?_
  refine L.nil ?_
  refine T.thenN ?_
  refine T.block ?_
  refine T.loop (fun K' D' M' μ => ∃ (i : Nat) (a1 a2 : Option Addr) (on1 c1 l2 c2 : Nat) (sq1 : Int) (ol1 out : List Ord), ((i ≤ wn ∧ l2 ≤ i ∧ on1 ≤ on + i ∧ 0 ≤ sq1 ∧ sq1 ≤ sq + i) ∧ (ol1.length = on1 ∧ out.length = l2) ∧ askF (atM ml) hs now o ll (ws.drop i) ol1 sq1 out = askF (atM ml) hs now o ll ws ol sq []) ∧ K' = [(18, .int .i64 i), (10, .slice a2 l2 c2)] ∧ D' = [rsl 6 a1 on1 c1 ((ol1).map oR)] ∧ M' = [cl b4 34 (xC o sq1 a1 on1 c1 la ln lc ma mn mc), own 6 47 a2 l2 c2 ((out).map oR)] ∧ μ = wn - i) (.cons (t := 1) rfl <| .cons (t := 2) rfl <| .cons (t := 4) rfl <| .cons (t := 8) rfl <| .cons (t := 16) rfl <| .cons (t := 17) rfl <| SubK.nil _) (⟨0, oa, _, on, oc, 0, _, sq, ol, [], ⟨by omega, ⟨hol, rfl⟩, by rw [List.drop_zero]⟩, rfl, rfl, rfl, rfl⟩) (.cons (t := 18) rfl <| .cons (t := 10) rfl <| SubK.nil _) qD qS ?_
  rintro K1 D1 M1 m1 ⟨i, a1, a2, on1, c1, l2, c2, sq1, ol1, out, ⟨⟨hi, hi2, hon1, hsq1, hsq2⟩, ⟨hol1, hout⟩, hI⟩, rfl, rfl, rfl, rfl⟩
  refine T.norm3 qA qA qA ?_
  refine T.seq ?_
  refine T.region ?_
  refine L.ltI rfl rfl rfl ?_
  refine L.nil ?_
  refine T.thenN ?_
  refine T.seq ?_
  refine T.cond rfl (fun h19 => ?_) (fun h19 => ?_)
  · try simp only [decide_eq_true_eq, decide_eq_false_iff_not, Bool.not_eq_true', Bool.not_eq_false', Bool.and_eq_true, Bool.or_eq_true] at h19
    refine T.skip ?_
    refine T.thenN ?_
    refine T.seq ?_
    refine T.block ?_
    refine T.seq ?_
    have hgi : ws[i]? = some (gd ws i) := gd_get (by omega)
    obtain ⟨w, hw_⟩ : ∃ x, x = gd ws i := ⟨_, rfl⟩
    rw [← hw_] at hgi
    have hgw : (ws.map wR)[i]? = some (wR w) := map_get hgi
    rw [drop_cons hgi] at hI
    refine T.region ?_
    refine L.idx (i := i) rfl Tryz.underlying68 sz45 rfl rfl qM (by first | rfl | omega | (simp; done)) qG (fun b20 o20 => ?_)
    refine L.loadA rfl ag45 rfl qN ?_
    refine L.alloc rfl ze45 (fun b12 => ?_)
    refine L.storeA ag45 rfl rfl qL qO qU qW ?_
    refine L.nil ?_
    refine T.thenN ?_
    refine T.seq ?_
    refine T.seq ?_
    rcases Decidable.em (8 ≤ on1) with h1 | h1
    · skip
      rw [ask_no (.inl (by omega))] at hI
      refine T.region ?_
      first | refine L.field0 rfl fo34_2 rfl ?_ | refine L.field rfl fo34_2 rfl ?_
      refine L.load rfl sc30 rfl qC ?_
      refine L.lenSl rfl Tryz.underlying30 rfl ?_
      refine L.geI rfl rfl rfl ?_
      refine L.move rfl rfl ?_
      refine L.known (t := 26) rfl (show _ = Value.bool true from congrArg Value.bool (decide_eq_true (by omega))) ?_
      refine L.guardF (dj := 26) (c := true) rfl rfl rfl rfl rfl (by decide) ?_
      refine L.guardF (dj := 26) (c := true) rfl rfl rfl rfl rfl (by decide) ?_
      refine L.guardF (dj := 26) (c := true) rfl rfl rfl rfl rfl (by decide) ?_
      refine L.guardF (dj := 26) (c := true) rfl rfl rfl rfl rfl (by decide) ?_
      refine L.pickT rfl rfl rfl ?_
      refine L.nil ?_
      refine T.thenN ?_
      refine T.condT rfl rfl ?_
      refine T.exit ?_
      refine T.thenX ?_
      refine T.blkX ?_
      refine T.thenN ?_
      refine T.region ?_
      refine L.addN rfl rfl rfl (by omega) ?_
      refine L.move rfl rfl ?_
      refine L.nil ?_
      refine T.thenN ?_
      exact T.back ⟨i + 1, a1, _, on1, c1, l2, _, sq1, ol1, out, ⟨by omega, ⟨hol1, hout⟩, hI⟩, rfl, rfl, rfl, rfl⟩ qI (.cons (t := 18) rfl <| .cons (t := 10) rfl <| SubK.nil _) (.cons (t := 1) rfl <| .cons (t := 2) rfl <| .cons (t := 4) rfl <| .cons (t := 8) rfl <| .cons (t := 16) rfl <| .cons (t := 17) rfl <| SubK.nil _) qD qD qF
    · skip
      refine T.region ?_
      first | refine L.field0 rfl fo34_2 rfl ?_ | refine L.field rfl fo34_2 rfl ?_
      refine L.load rfl sc30 rfl qC ?_
      refine L.lenSl rfl Tryz.underlying30 rfl ?_
      refine L.geI rfl rfl rfl ?_
      refine L.move rfl rfl ?_
      refine L.known (t := 26) rfl (show _ = Value.bool false from congrArg Value.bool (decide_eq_false (by omega))) ?_
      refine L.guardT (dj := 26) rfl rfl rfl ?_
      refine L.loadA rfl ag34 rfl qN ?_
      refine L.guardT (dj := 26) rfl rfl rfl ?_
      first | refine L.field0 rfl fo45_1 rfl ?_ | refine L.field rfl fo45_1 rfl ?_
      refine L.guardT (dj := 26) rfl rfl rfl ?_
      refine L.load rfl sc9 rfl qC ?_
      refine L.guardT (dj := 26) rfl rfl rfl ?_
      refine L.callF rfl (evs.cons rfl <| evs.cons rfl <| evs.nil) qD qS (rord_spec (ol := ol1) (id := w.2.1) (by omega)) (by rintro u D1 M1 ⟨rfl, rfl, rfl⟩; exact ⟨rfl, _, qA, qF⟩) ?_
      refine L.pickF rfl rfl rfl ?_
      refine L.nil ?_
      refine T.thenN ?_
      refine T.cond rfl (fun h31 => ?_) (fun h31 => ?_)
      · try simp only [decide_eq_true_eq, decide_eq_false_iff_not, Bool.not_eq_true', Bool.not_eq_false', Bool.and_eq_true, Bool.or_eq_true] at h31
        rw [ask_no (.inr (.inl h31))] at hI
        refine T.exit ?_
        refine T.thenX ?_
        refine T.blkX ?_
        refine T.thenN ?_
        refine T.region ?_
        refine L.addN rfl rfl rfl (by omega) ?_
        refine L.move rfl rfl ?_
        refine L.nil ?_
        refine T.thenN ?_
        exact T.back ⟨i + 1, a1, _, on1, c1, l2, _, sq1, ol1, out, ⟨by omega, ⟨hol1, hout⟩, hI⟩, rfl, rfl, rfl, rfl⟩ qI (.cons (t := 18) rfl <| .cons (t := 10) rfl <| SubK.nil _) (.cons (t := 1) rfl <| .cons (t := 2) rfl <| .cons (t := 4) rfl <| .cons (t := 8) rfl <| .cons (t := 16) rfl <| .cons (t := 17) rfl <| SubK.nil _) qD qD qF
      · try simp only [decide_eq_true_eq, decide_eq_false_iff_not, Bool.not_eq_true', Bool.not_eq_false', Bool.and_eq_true, Bool.or_eq_true] at h31
        have hno : ordB ol1 w.2.1 = false := by simpa using h31
        refine T.skip ?_
        refine T.thenN ?_
        refine T.seq ?_
        refine T.region ?_
        refine L.loadA rfl ag34 rfl qN ?_
        refine L.loadA rfl ag45 rfl qN ?_
        refine L.move rfl rfl ?_
        refine L.move rfl rfl ?_
        refine L.callF rfl (evs.cons rfl <| evs.cons rfl <| evs.cons rfl <| evs.cons rfl <| evs.nil) qD qS (rwhom_spec (ol := ol1) (ll := ll) (ml := ml) (w := w) (hs := hs) (by omega) hln hml hhn) (by rintro u D1 M1 ⟨rfl, rfl, rfl⟩; exact ⟨rfl, _, qA, qF⟩) ?_
        obtain ⟨n, hn⟩ : ∃ n, n = refW (atM ml) hs now o ol1 ll w.2.1 := ⟨_, rfl⟩
        rw [← hn]
        refine L.assign rfl rfl ?_
        refine L.nil ?_
        refine T.thenN ?_
        refine T.seq ?_
        refine T.region ?_
        refine L.move rfl rfl ?_
        refine L.geI rfl rfl rfl ?_
        refine L.nil ?_
        refine T.thenN ?_
        refine T.cond rfl (fun h38 => ?_) (fun h38 => ?_)
        · try simp only [decide_eq_true_eq, decide_eq_false_iff_not, Bool.not_eq_true', Bool.not_eq_false', Bool.and_eq_true, Bool.or_eq_true] at h38
          rw [ask_yes (n := n) (by omega) hno hn (by omega)] at hI
          refine T.seq ?_
          refine T.region ?_
          first | refine L.field0 rfl fo34_1 rfl ?_ | refine L.field rfl fo34_1 rfl ?_
          refine L.load rfl sc3 rfl qC ?_
          refine L.addN rfl rfl rfl (by omega) ?_
          first | refine L.field0 rfl fo34_1 rfl ?_ | refine L.field rfl fo34_1 rfl ?_
          refine L.store sc3 rfl rfl rfl qU qE ?_
          refine L.nil ?_
          refine T.thenN ?_
          refine T.seq ?_
          refine T.region ?_
          refine L.loadA rfl ag45 rfl qN ?_
          refine L.move rfl rfl ?_
          first | refine L.field0 rfl fo34_1 rfl ?_ | refine L.field rfl fo34_1 rfl ?_
          refine L.load rfl sc3 rfl qC ?_
          refine L.move rfl rfl ?_
          refine L.build rfl bu47 (BP.agg rfl rfl (by first | with_reducible assumption | (simp; done) | (simp only [List.length_map]; with_reducible assumption) | (simp [*]; done) | rfl) (Nat.le_of_ble_eq_true rfl) qR <| BP.one rfl rfl rfl <| BP.one rfl rfl rfl <| BP.one rfl rfl rfl <| BP.doneE (out := []) rfl) ?_
          refine L.known (t := 48) (u := .agg (oR (w, n, sq1 + 1, now)).toArray) rfl (by rfl) ?_
          refine L.alloc rfl ze47 (fun b14 => ?_)
          refine L.storeA ag47 rfl rfl qL qO qU qW ?_
          refine L.nil ?_
          refine T.thenN ?_
          refine T.seq ?_
          refine T.regionA (clsL [0, 1, 0, 0, 0, 0, 2, 1, 2]) (by kernel_rfl) ?_
          refine A.takeP (i := 1) rfl rfl rfl rfl (by kernel_rfl) (by kernel_rfl) (by kernel_rfl) rfl qD ?_
          first | refine L.field0 rfl fo34_2 rfl ?_ | refine L.field rfl fo34_2 rfl ?_
          refine A.took ?_
          refine A.take (i := 2) rfl rfl rfl rfl (by kernel_rfl) (by kernel_rfl) (by kernel_rfl) (by kernel_rfl) rfl qD qF ?_
          refine L.load rfl sc30 rfl qC ?_
          refine A.took ?_
          refine A.take (i := 4) rfl rfl rfl rfl (by kernel_rfl) (by kernel_rfl) (by kernel_rfl) (by kernel_rfl) rfl qD qF ?_
          refine L.loadA rfl ag47 rfl qN ?_
          refine A.took ?_
          refine A.branch (is := [0, 5]) (by kernel_rfl) (by decide) (Each.cons rfl ?_ <| Each.cons rfl ?_ <| Each.nil) 
          · skip
            refine L.buildSlice rfl bs30 (by decide) (BP.doneE (out := []) rfl) (fun b49 => ?_)
            refine L.toOwn (len := 0) qP (rows := ([] : List Ord).map oR) (sz := 6) (by rfl) rfl (by simp) ?_
            refine A.back rfl qD qF ?_
            refine A.branch (is := [3, 5]) (by kernel_rfl) (by decide) (Each.cons rfl ?_ <| Each.cons rfl ?_ <| Each.nil) 
            · skip
              refine L.appendR rfl Tryz.underlying30 Tryz.underlying30 el47 rfl rfl qP (rd_D qM) one_oR1 qI qI (fun a52 c52 => ?_)
              refine A.back rfl qD qF ?_
              refine A.branch (is := [5]) (by kernel_rfl) (by decide) (Each.cons rfl ?_ <| Each.nil) 
              refine L.buildSlice rfl bs30 (by decide) (BP.agg rfl rfl (by first | with_reducible assumption | (simp; done) | (simp only [List.length_map]; with_reducible assumption) | (simp [*]; done) | rfl) (Nat.le_of_ble_eq_true rfl) qR <| BP.doneE (out := []) rfl) (fun b54 => ?_)
              refine A.back rfl qD qF ?_
              refine A.branch (is := [6]) (by kernel_rfl) (by decide) (Each.cons rfl ?_ <| Each.nil) 
              refine L.append1 rfl Tryz.underlying30 el47 rfl rfl qP qM rfl qO1 qI qI (fun a55 c55 => ?_)
              refine A.backT rfl qD ?_
              refine A.takeP (i := 7) rfl rfl rfl rfl (by kernel_rfl) (by kernel_rfl) (by kernel_rfl) rfl qD ?_
              first | refine L.field0 rfl fo34_2 rfl ?_ | refine L.field rfl fo34_2 rfl ?_
              refine A.took ?_
              refine A.branch (is := [8]) (by kernel_rfl) (by decide) (Each.cons rfl ?_ <| Each.nil) 
              refine L.store sc30 rfl rfl rfl qU qE ?_
              refine A.backT rfl qD ?_
              refine A.done (by kernel_rfl) ?_
              refine T.ownEq a55 ((ol1 ++ [(w, n, sq1 + 1, now)]).map oR) qP (by rw [snocM]; rfl) ?_
              refine T.ownRsl qP ?_
              refine T.thenN ?_
              refine T.region ?_
              refine L.move rfl rfl ?_
              refine L.loadA rfl ag47 rfl qN ?_
              refine L.buildSlice rfl bs30 (by decide) (BP.agg rfl rfl (by first | with_reducible assumption | (simp; done) | (simp only [List.length_map]; with_reducible assumption) | (simp [*]; done) | rfl) (Nat.le_of_ble_eq_true rfl) qR <| BP.doneE (out := []) rfl) (fun b59 => ?_)
              refine L.append1 rfl Tryz.underlying30 el47 rfl rfl qP qM rfl qO1 qI qI (fun a60 c60 => ?_)
              refine L.assign rfl rfl ?_
              refine L.nil ?_
              refine T.ownEq a60 ((out ++ [(w, n, sq1 + 1, now)]).map oR) qP (by rw [snocM]) ?_
              refine T.blkN ?_
              refine T.thenN ?_
              refine T.region ?_
              refine L.addN rfl rfl rfl (by omega) ?_
              refine L.move rfl rfl ?_
              refine L.nil ?_
              refine T.thenN ?_
              exact T.back ⟨i + 1, _, _, 0 + on1 + 1, _, l2 + 1, _, sq1 + 1, ol1 ++ [(w, n, sq1 + 1, now)], out ++ [(w, n, sq1 + 1, now)], ⟨by omega, ⟨by rw [List.length_append, hol1]; show on1 + 1 = 0 + on1 + 1; omega, by rw [List.length_append, hout]; rfl⟩, hI⟩, rfl, rfl, rfl, rfl⟩ qI (.cons (t := 18) rfl <| .cons (t := 10) rfl <| SubK.nil _) (.cons (t := 1) rfl <| .cons (t := 2) rfl <| .cons (t := 4) rfl <| .cons (t := 8) rfl <| .cons (t := 16) rfl <| .cons (t := 17) rfl <| SubK.nil _) qD qD qF
            · skip
              refine L.buildSlice rfl bs30 (by decide) (BP.agg rfl rfl (by first | with_reducible assumption | (simp; done) | (simp only [List.length_map]; with_reducible assumption) | (simp [*]; done) | rfl) (Nat.le_of_ble_eq_true rfl) qR <| BP.doneE (out := []) rfl) (fun b54 => ?_)
              refine A.back rfl qD qF ?_
              refine A.branch (is := [3]) (by kernel_rfl) (by decide) (Each.cons rfl ?_ <| Each.nil) 
              refine L.appendR rfl Tryz.underlying30 Tryz.underlying30 el47 rfl rfl qP (rd_D qM) one_oR1 qI qI (fun a52 c52 => ?_)
              refine A.back rfl qD qF ?_
              refine A.branch (is := [6]) (by kernel_rfl) (by decide) (Each.cons rfl ?_ <| Each.nil) 
              refine L.append1 rfl Tryz.underlying30 el47 rfl rfl qP qM rfl qO1 qI qI (fun a55 c55 => ?_)
              refine A.backT rfl qD ?_
              refine A.takeP (i := 7) rfl rfl rfl rfl (by kernel_rfl) (by kernel_rfl) (by kernel_rfl) rfl qD ?_
              first | refine L.field0 rfl fo34_2 rfl ?_ | refine L.field rfl fo34_2 rfl ?_
              refine A.took ?_
              refine A.branch (is := [8]) (by kernel_rfl) (by decide) (Each.cons rfl ?_ <| Each.nil) 
              refine L.store sc30 rfl rfl rfl qU qE ?_
              refine A.backT rfl qD ?_
              refine A.done (by kernel_rfl) ?_
              refine T.ownEq a55 ((ol1 ++ [(w, n, sq1 + 1, now)]).map oR) qP (by rw [snocM]; rfl) ?_
              refine T.ownRsl qP ?_
              refine T.thenN ?_
              refine T.region ?_
              refine L.move rfl rfl ?_
              refine L.loadA rfl ag47 rfl qN ?_
              refine L.buildSlice rfl bs30 (by decide) (BP.agg rfl rfl (by first | with_reducible assumption | (simp; done) | (simp only [List.length_map]; with_reducible assumption) | (simp [*]; done) | rfl) (Nat.le_of_ble_eq_true rfl) qR <| BP.doneE (out := []) rfl) (fun b59 => ?_)
              refine L.append1 rfl Tryz.underlying30 el47 rfl rfl qP qM rfl qO1 qI qI (fun a60 c60 => ?_)
              refine L.assign rfl rfl ?_
              refine L.nil ?_
              refine T.ownEq a60 ((out ++ [(w, n, sq1 + 1, now)]).map oR) qP (by rw [snocM]) ?_
              refine T.blkN ?_
              refine T.thenN ?_
              refine T.region ?_
              refine L.addN rfl rfl rfl (by omega) ?_
              refine L.move rfl rfl ?_
              refine L.nil ?_
              refine T.thenN ?_
              exact T.back ⟨i + 1, _, _, 0 + on1 + 1, _, l2 + 1, _, sq1 + 1, ol1 ++ [(w, n, sq1 + 1, now)], out ++ [(w, n, sq1 + 1, now)], ⟨by omega, ⟨by rw [List.length_append, hol1]; show on1 + 1 = 0 + on1 + 1; omega, by rw [List.length_append, hout]; rfl⟩, hI⟩, rfl, rfl, rfl, rfl⟩ qI (.cons (t := 18) rfl <| .cons (t := 10) rfl <| SubK.nil _) (.cons (t := 1) rfl <| .cons (t := 2) rfl <| .cons (t := 4) rfl <| .cons (t := 8) rfl <| .cons (t := 16) rfl <| .cons (t := 17) rfl <| SubK.nil _) qD qD qF
          · skip
            refine L.buildSlice rfl bs30 (by decide) (BP.agg rfl rfl (by first | with_reducible assumption | (simp; done) | (simp only [List.length_map]; with_reducible assumption) | (simp [*]; done) | rfl) (Nat.le_of_ble_eq_true rfl) qR <| BP.doneE (out := []) rfl) (fun b54 => ?_)
            refine A.back rfl qD qF ?_
            refine A.branch (is := [0]) (by kernel_rfl) (by decide) (Each.cons rfl ?_ <| Each.nil) 
            refine L.buildSlice rfl bs30 (by decide) (BP.doneE (out := []) rfl) (fun b49 => ?_)
            refine L.toOwn (len := 0) qP (rows := ([] : List Ord).map oR) (sz := 6) (by rfl) rfl (by simp) ?_
            refine A.back rfl qD qF ?_
            refine A.branch (is := [3]) (by kernel_rfl) (by decide) (Each.cons rfl ?_ <| Each.nil) 
            refine L.appendR rfl Tryz.underlying30 Tryz.underlying30 el47 rfl rfl qP (rd_D qM) one_oR1 qI qI (fun a52 c52 => ?_)
            refine A.back rfl qD qF ?_
            refine A.branch (is := [6]) (by kernel_rfl) (by decide) (Each.cons rfl ?_ <| Each.nil) 
            refine L.append1 rfl Tryz.underlying30 el47 rfl rfl qP qM rfl qO1 qI qI (fun a55 c55 => ?_)
            refine A.backT rfl qD ?_
            refine A.takeP (i := 7) rfl rfl rfl rfl (by kernel_rfl) (by kernel_rfl) (by kernel_rfl) rfl qD ?_
            first | refine L.field0 rfl fo34_2 rfl ?_ | refine L.field rfl fo34_2 rfl ?_
            refine A.took ?_
            refine A.branch (is := [8]) (by kernel_rfl) (by decide) (Each.cons rfl ?_ <| Each.nil) 
            refine L.store sc30 rfl rfl rfl qU qE ?_
            refine A.backT rfl qD ?_
            refine A.done (by kernel_rfl) ?_
            refine T.ownEq a55 ((ol1 ++ [(w, n, sq1 + 1, now)]).map oR) qP (by rw [snocM]; rfl) ?_
            refine T.ownRsl qP ?_
            refine T.thenN ?_
            refine T.region ?_
            refine L.move rfl rfl ?_
            refine L.loadA rfl ag47 rfl qN ?_
            refine L.buildSlice rfl bs30 (by decide) (BP.agg rfl rfl (by first | with_reducible assumption | (simp; done) | (simp only [List.length_map]; with_reducible assumption) | (simp [*]; done) | rfl) (Nat.le_of_ble_eq_true rfl) qR <| BP.doneE (out := []) rfl) (fun b59 => ?_)
            refine L.append1 rfl Tryz.underlying30 el47 rfl rfl qP qM rfl qO1 qI qI (fun a60 c60 => ?_)
            refine L.assign rfl rfl ?_
            refine L.nil ?_
            refine T.ownEq a60 ((out ++ [(w, n, sq1 + 1, now)]).map oR) qP (by rw [snocM]) ?_
            refine T.blkN ?_
            refine T.thenN ?_
            refine T.region ?_
            refine L.addN rfl rfl rfl (by omega) ?_
            refine L.move rfl rfl ?_
            refine L.nil ?_
            refine T.thenN ?_
            exact T.back ⟨i + 1, _, _, 0 + on1 + 1, _, l2 + 1, _, sq1 + 1, ol1 ++ [(w, n, sq1 + 1, now)], out ++ [(w, n, sq1 + 1, now)], ⟨by omega, ⟨by rw [List.length_append, hol1]; show on1 + 1 = 0 + on1 + 1; omega, by rw [List.length_append, hout]; rfl⟩, hI⟩, rfl, rfl, rfl, rfl⟩ qI (.cons (t := 18) rfl <| .cons (t := 10) rfl <| SubK.nil _) (.cons (t := 1) rfl <| .cons (t := 2) rfl <| .cons (t := 4) rfl <| .cons (t := 8) rfl <| .cons (t := 16) rfl <| .cons (t := 17) rfl <| SubK.nil _) qD qD qF
        · try simp only [decide_eq_true_eq, decide_eq_false_iff_not, Bool.not_eq_true', Bool.not_eq_false', Bool.and_eq_true, Bool.or_eq_true] at h38
          rw [ask_no (.inr (.inr (by omega)))] at hI
          refine T.skip ?_
          refine T.blkN ?_
          refine T.thenN ?_
          refine T.region ?_
          refine L.addN rfl rfl rfl (by omega) ?_
          refine L.move rfl rfl ?_
          refine L.nil ?_
          refine T.thenN ?_
          exact T.back ⟨i + 1, a1, _, on1, c1, l2, _, sq1, ol1, out, ⟨by omega, ⟨hol1, hout⟩, hI⟩, rfl, rfl, rfl, rfl⟩ qI (.cons (t := 18) rfl <| .cons (t := 10) rfl <| SubK.nil _) (.cons (t := 1) rfl <| .cons (t := 2) rfl <| .cons (t := 4) rfl <| .cons (t := 8) rfl <| .cons (t := 16) rfl <| .cons (t := 17) rfl <| SubK.nil _) qD qD qF
  · try simp only [decide_eq_true_eq, decide_eq_false_iff_not, Bool.not_eq_true', Bool.not_eq_false', Bool.and_eq_true, Bool.or_eq_true] at h19
    obtain rfl : wn = i := by omega
    rw [List.drop_eq_nil_of_le (by omega)] at hI
    refine T.exit ?_
    refine T.thenX ?_
    refine T.thenX ?_
    refine T.blkX ?_
    refine T.thenN ?_
    refine T.seq ?_
    refine T.region ?_
    refine L.loadA rfl ag34 rfl qN ?_
    refine L.move rfl rfl ?_
    refine L.storeA ag34 rfl rfl qL qO qU qW ?_
    refine L.assign rfl rfl ?_
    refine L.nil ?_
    refine T.ownRsl (rows := out.map oR) qP ?_
    refine T.thenN ?_
    refine T.ret ?_
    exact T.retAT rfl ag34 rfl qN rfl ⟨(ol1, sq1, out), _, _, _, _, _, _, rfl, hI, hol1, hout, rfl, rfl⟩ qD qF
end Cv
