/-
  The walks: the reference's calls.
-/
import Derived.Test.YtcfhpmijippbmaaGreatRa25
import Derived.Test.YtcfhpmijippbmaaGreatProg
import Derived.KernelRfl
set_option linter.unusedVariables false
set_option linter.unusedSimpArgs false
set_option linter.unusedSectionVars false
set_option maxRecDepth 10000
namespace Cv
open Go Go.Proofs
theorem okr_cases (o : Int) (ol : List Ord) (y : Int) : ¬ y ≠ o ∨ (y ≠ o ∧ ¬ cntO ol y < 4) ∨ (y ≠ o ∧ cntO ol y < 4) := by
  by_cases h1 : y ≠ o
  · by_cases h2 : cntO ol y < 4
    · exact .inr (.inr ⟨h1, h2⟩)
    · exact .inr (.inl ⟨h1, h2⟩)
  · exact .inl h1
theorem one_oR {l : List Ord} {p q : Nat} : ∀ u ∈ (((l.map oR).drop p).take q).flatten, u.oneCell' = true := fun u hu => by
  obtain ⟨r, hr, hu⟩ := List.mem_flatten.1 hu
  obtain ⟨x, _, rfl⟩ := List.mem_map.1 (List.mem_of_mem_drop (List.mem_of_mem_take hr))
  simp only [oR, List.mem_cons, List.not_mem_nil, or_false] at hu
  rcases hu with rfl | rfl | rfl | rfl | rfl | rfl <;> rfl
theorem one_oR1 {l : List Ord} : ∀ u ∈ (l.map oR).flatten, u.oneCell' = true := fun u hu => by
  obtain ⟨r, hr, hu⟩ := List.mem_flatten.1 hu
  obtain ⟨x, _, rfl⟩ := List.mem_map.1 hr
  simp only [oR, List.mem_cons, List.not_mem_nil, or_false] at hu
  rcases hu with rfl | rfl | rfl | rfl | rfl | rfl <;> rfl
theorem fo34_4 : Fo Tryz.prog 34 4 4 := fun a w => by kernel_rfl
theorem sc32 : Sc Tryz.prog 32 := fun w => ⟨by kernel_rfl, by kernel_rfl⟩
theorem fo34_0 : Fo Tryz.prog 34 0 0 := fun a w => by kernel_rfl
theorem ag34 : Ag Tryz.prog 34 5 := fun w => ⟨by kernel_rfl, by kernel_rfl⟩
theorem zv34 : ∀ w, (zeroValue 34).run Tryz.prog w = .ok (Value.agg #[Value.int .i64 0, Value.int .i64 0, Value.slice none 0 0, Value.slice none 0 0, Value.slice none 0 0]) w := fun w => by kernel_rfl
theorem ze34 : Ze Tryz.prog 34 [Value.int .i64 0, Value.int .i64 0, Value.slice none 0 0, Value.slice none 0 0, Value.slice none 0 0] := ⟨_, rfl, zv34⟩
theorem bs31 : Bs Tryz.prog 31 141 3 [Value.int .i64 0, S [], Value.int .i64 0] := bs_of Tryz.underlying31 (fun w => by kernel_rfl) zv141 rfl rfl (by decide)
theorem el141 : El Tryz.prog 141 3 32 := ⟨_, _, rfl, rfl, by kernel_rfl, by kernel_rfl, by kernel_rfl⟩
theorem bu141 : Bu Tryz.prog 141 [Value.int .i64 0, S [], Value.int .i64 0] (fun (i : Nat) => ([(0, 1), (1, 1), (2, 1)] : List (Nat × Nat))[i]?) := bu_of Tryz.underlying141 zv141 rfl (fun w => by kernel_rfl)
theorem bs30 : Bs Tryz.prog 30 47 6 [Value.int .i64 0, S [], Value.int .i64 0, Value.int .i64 0, Value.int .i64 0, Value.int .i64 0] := bs_of Tryz.underlying30 (fun w => by kernel_rfl) zv47 rfl rfl (by decide)
theorem el47 : El Tryz.prog 47 6 56 := ⟨_, _, rfl, rfl, by kernel_rfl, by kernel_rfl, by kernel_rfl⟩
set_option maxHeartbeats 400000 in
theorem rwhom_spec {o sq : Int} {oa la ma : Option Addr} {on oc ln lc mn mc : Nat} {ol : List Ord} {ll : List (LK × Int)} {ml : List (Int × Mind)} {w : Wnt} {now : Int} {ha : Option Addr} {hn hc : Nat} {hs : List Int} (hon : on ≤ 1000000) (hln : ln ≤ 1000000) (hml : ml.length ≤ 1000) (hhn : hs.length ≤ 1000) : Spec Tryz.prog 39 [.agg (xC o sq oa on oc la ln lc ma mn mc).toArray, .agg (wR w).toArray, .int .i64 now, .slice ha hn hc] [rsl 6 oa on oc (ol.map oR), rsl 3 la ln lc (ll.map kR), rsl 8 ma mn mc (ml.map rrow), rsl 1 ha hn hc (hs.map e3)] [] (fun v D' M' => v = .int .i64 (refW (atM ml) hs now o ol ll w.2.1) ∧ D' = [] ∧ M' = []) := by
  refine Spec.intro (n := 41) Tryz.func39 rfl rfl (by decide) (Nat.le_of_ble_eq_true rfl) rfl (fun _ => qA) (fun _ => qA) ?_
  intro σ D M
  refine T.seq ?_
  refine T.region ?_
  refine L.box rfl rfl rfl (fun b4 => ?_)
  refine L.box rfl rfl rfl (fun b5 => ?_)
  refine L.assign rfl rfl ?_
  refine L.nil ?_
  refine T.thenN ?_
  refine T.seq ?_
  refine T.seq ?_
  refine T.region ?_
  first | refine L.field0 rfl fo34_4 rfl ?_ | refine L.field rfl fo34_4 rfl ?_
  refine L.load rfl sc32 rfl qC ?_
  refine L.move rfl rfl ?_
  refine L.move rfl rfl ?_
  refine L.call rfl (evs.cons rfl <| evs.cons rfl <| evs.cons rfl <| evs.nil) qD qS (rsort_spec (al := hs) (l := ml) hml hhn) ?_
  rintro _ _ _ ⟨ra, rl, rc, rfl, hrl, rfl, rfl⟩
  refine L.norm qA qA ?_
  obtain ⟨ys, hys⟩ : ∃ ys, ys = sortR (cR (atM ml)) (fun x => mayB (atM ml) x now) hs hs.length := ⟨_, rfl⟩
  have hyl := sortR_le (c := cR (atM ml)) (may := fun x => mayB (atM ml) x now) (all := hs) (Nat.le_refl _)
  rw [← hys] at hrl hyl ⊢
  subst hrl
  refine L.lenSl rfl Tryz.underlying39 rfl ?_
  refine L.move rfl rfl ?_
  refine L.nil ?_
  refine T.thenN ?_
  refine T.block ?_
  refine T.loop (fun K' D' M' μ => ∃ (i : Nat), (i ≤ ys.length ∧ ∀ z ∈ ys.take i, okW o ol ll w.2.1 z = false) ∧ K' = [(17, .int .i64 i)] ∧ D' = [] ∧ M' = [] ∧ μ = ys.length - i) (.cons (t := 4) rfl <| .cons (t := 5) rfl <| .cons (t := 15) rfl <| .cons (t := 16) rfl <| SubK.nil _) (⟨0, ⟨by omega, by simp⟩, rfl, rfl, rfl, rfl⟩) (.cons (t := 17) rfl <| SubK.nil _) qD qS ?_
  rintro K1 D1 M1 m1 ⟨i, ⟨hi, hall⟩, rfl, rfl, rfl, rfl⟩
  refine T.norm3 qA qA qA ?_
  refine T.seq ?_
  refine T.region ?_
  refine L.ltI rfl rfl rfl ?_
  refine L.nil ?_
  refine T.thenN ?_
  refine T.seq ?_
  refine T.cond rfl (fun h18 => ?_) (fun h18 => ?_)
  · try simp only [decide_eq_true_eq, decide_eq_false_iff_not, Bool.not_eq_true', Bool.not_eq_false', Bool.and_eq_true, Bool.or_eq_true] at h18
    refine T.skip ?_
    refine T.thenN ?_
    refine T.seq ?_
    refine T.block ?_
    refine T.seq ?_
    obtain ⟨y, hgi⟩ := ex_get (l := ys) (k := i) (by omega)
    refine T.ownNe (a := ra) qM (by omega) (fun pr qr hra => ?_)
    subst hra
    refine T.region ?_
    refine L.idxG (i := i) rfl Tryz.underlying39 sz3 rfl rfl (by first | rfl | omega | (simp; done)) qI ?_
    refine L.load rfl sc3 rfl qC ?_
    refine L.assign rfl rfl ?_
    refine L.nil ?_
    refine T.thenN ?_
    refine T.seq ?_
    rcases okr_cases o ol y with h1 | ⟨h1, h2⟩ | ⟨h1, h2⟩
    · skip
      have hok : okW o ol ll w.2.1 y = false := decide_eq_false (fun e => h1 e.2.2)
      refine T.region ?_
      refine L.move rfl rfl ?_
      first | refine L.field0 rfl fo34_0 rfl ?_ | refine L.field rfl fo34_0 rfl ?_
      refine L.load rfl sc3 rfl qC ?_
      refine L.neI rfl rfl rfl ?_
      refine L.move rfl rfl ?_
      refine L.known (t := 25) rfl (show _ = Value.bool false from congrArg Value.bool (decide_eq_false h1)) ?_
      refine L.guardF (dj := 25) (c := false) rfl rfl rfl rfl rfl (by decide) ?_
      refine L.guardF (dj := 25) (c := false) rfl rfl rfl rfl rfl (by decide) ?_
      refine L.guardF (dj := 25) (c := false) rfl rfl rfl rfl rfl (by decide) ?_
      refine L.guardF (dj := 25) (c := false) rfl rfl rfl rfl rfl (by decide) ?_
      refine L.pickF rfl rfl rfl ?_
      refine L.move rfl rfl ?_
      refine L.guardF (dj := 31) (c := false) rfl rfl rfl rfl rfl (by decide) ?_
      refine L.guardF (dj := 31) (c := false) rfl rfl rfl rfl rfl (by decide) ?_
      refine L.guardF (dj := 31) (c := false) rfl rfl rfl rfl rfl (by decide) ?_
      refine L.guardF (dj := 31) (c := false) rfl rfl rfl rfl rfl (by decide) ?_
      refine L.guardF (dj := 31) (c := false) rfl rfl rfl rfl rfl (by decide) ?_
      refine L.guardF (dj := 31) (c := false) rfl rfl rfl rfl rfl (by decide) ?_
      refine L.pickF rfl rfl rfl ?_
      refine L.nil ?_
      refine T.thenN ?_
      refine T.condF rfl rfl ?_
      refine T.skip ?_
      refine T.blkN ?_
      refine T.thenN ?_
      refine T.region ?_
      refine L.addN rfl rfl rfl (by omega) ?_
      refine L.move rfl rfl ?_
      refine L.nil ?_
      refine T.thenN ?_
      exact T.back ⟨i + 1, ⟨by omega, find_s hall hgi hok⟩, rfl, rfl, rfl, rfl⟩ qI (.cons (t := 17) rfl <| SubK.nil _) (.cons (t := 4) rfl <| .cons (t := 5) rfl <| .cons (t := 15) rfl <| .cons (t := 16) rfl <| SubK.nil _) qD qD qF
    · skip
      have hok : okW o ol ll w.2.1 y = false := decide_eq_false (fun e => h2 e.2.1)
      refine T.region ?_
      refine L.move rfl rfl ?_
      first | refine L.field0 rfl fo34_0 rfl ?_ | refine L.field rfl fo34_0 rfl ?_
      refine L.load rfl sc3 rfl qC ?_
      refine L.neI rfl rfl rfl ?_
      refine L.move rfl rfl ?_
      refine L.known (t := 25) rfl (show _ = Value.bool true from congrArg Value.bool (decide_eq_true h1)) ?_
      refine L.guardT (dj := 25) rfl rfl rfl ?_
      refine L.loadA rfl ag34 rfl qN ?_
      refine L.guardT (dj := 25) rfl rfl rfl ?_
      refine L.move rfl rfl ?_
      refine L.guardT (dj := 25) rfl rfl rfl ?_
      refine L.callF rfl (evs.cons rfl <| evs.cons rfl <| evs.nil) qD qS (rbusy_spec (ol := ol) hon) (by rintro u D1 M1 ⟨rfl, rfl, rfl⟩; exact ⟨rfl, _, qA, qF⟩) ?_
      refine L.guardT (dj := 25) rfl rfl rfl ?_
      refine L.ltI rfl rfl rfl ?_
      refine L.pickT rfl rfl rfl ?_
      refine L.move rfl rfl ?_
      refine L.known (t := 31) rfl (show _ = Value.bool false from congrArg Value.bool (decide_eq_false (by omega))) ?_
      refine L.guardF (dj := 31) (c := false) rfl rfl rfl rfl rfl (by decide) ?_
      refine L.guardF (dj := 31) (c := false) rfl rfl rfl rfl rfl (by decide) ?_
      refine L.guardF (dj := 31) (c := false) rfl rfl rfl rfl rfl (by decide) ?_
      refine L.guardF (dj := 31) (c := false) rfl rfl rfl rfl rfl (by decide) ?_
      refine L.guardF (dj := 31) (c := false) rfl rfl rfl rfl rfl (by decide) ?_
      refine L.guardF (dj := 31) (c := false) rfl rfl rfl rfl rfl (by decide) ?_
      refine L.pickF rfl rfl rfl ?_
      refine L.nil ?_
      refine T.thenN ?_
      refine T.condF rfl rfl ?_
      refine T.skip ?_
      refine T.blkN ?_
      refine T.thenN ?_
      refine T.region ?_
      refine L.addN rfl rfl rfl (by omega) ?_
      refine L.move rfl rfl ?_
      refine L.nil ?_
      refine T.thenN ?_
      exact T.back ⟨i + 1, ⟨by omega, find_s hall hgi hok⟩, rfl, rfl, rfl, rfl⟩ qI (.cons (t := 17) rfl <| SubK.nil _) (.cons (t := 4) rfl <| .cons (t := 5) rfl <| .cons (t := 15) rfl <| .cons (t := 16) rfl <| SubK.nil _) qD qD qF
    · skip
      refine T.region ?_
      refine L.move rfl rfl ?_
      first | refine L.field0 rfl fo34_0 rfl ?_ | refine L.field rfl fo34_0 rfl ?_
      refine L.load rfl sc3 rfl qC ?_
      refine L.neI rfl rfl rfl ?_
      refine L.move rfl rfl ?_
      refine L.known (t := 25) rfl (show _ = Value.bool true from congrArg Value.bool (decide_eq_true h1)) ?_
      refine L.guardT (dj := 25) rfl rfl rfl ?_
      refine L.loadA rfl ag34 rfl qN ?_
      refine L.guardT (dj := 25) rfl rfl rfl ?_
      refine L.move rfl rfl ?_
      refine L.guardT (dj := 25) rfl rfl rfl ?_
      refine L.callF rfl (evs.cons rfl <| evs.cons rfl <| evs.nil) qD qS (rbusy_spec (ol := ol) hon) (by rintro u D1 M1 ⟨rfl, rfl, rfl⟩; exact ⟨rfl, _, qA, qF⟩) ?_
      refine L.guardT (dj := 25) rfl rfl rfl ?_
      refine L.ltI rfl rfl rfl ?_
      refine L.pickT rfl rfl rfl ?_
      refine L.move rfl rfl ?_
      refine L.known (t := 31) rfl (show _ = Value.bool true from congrArg Value.bool (decide_eq_true (by omega))) ?_
      refine L.guardT (dj := 31) rfl rfl rfl ?_
      refine L.loadA rfl ag34 rfl qN ?_
      refine L.guardT (dj := 31) rfl rfl rfl ?_
      refine L.move rfl rfl ?_
      refine L.guardT (dj := 31) rfl rfl rfl ?_
      first | refine L.field0 rfl fo45_1 rfl ?_ | refine L.field rfl fo45_1 rfl ?_
      refine L.guardT (dj := 31) rfl rfl rfl ?_
      refine L.load rfl sc9 rfl qC ?_
      refine L.guardT (dj := 31) rfl rfl rfl ?_
      refine L.callF rfl (evs.cons rfl <| evs.cons rfl <| evs.cons rfl <| evs.nil) qD qS (rlacks_spec (ll := ll) (id := w.2.1) hln) (by rintro u D1 M1 ⟨rfl, rfl, rfl⟩; exact ⟨rfl, _, qA, qF⟩) ?_
      refine L.guardT (dj := 31) rfl rfl rfl ?_
      refine L.notB rfl rfl ?_
      refine L.pickT rfl rfl rfl ?_
      refine L.nil ?_
      refine T.thenN ?_
      refine T.cond rfl (fun h38 => ?_) (fun h38 => ?_)
      · try simp only [decide_eq_true_eq, decide_eq_false_iff_not, Bool.not_eq_true', Bool.not_eq_false', Bool.and_eq_true, Bool.or_eq_true] at h38
        have hok : okW o ol ll w.2.1 y = true := decide_eq_true ⟨Option.isNone_iff_eq_none.1 (by simpa using h38), h2, h1⟩
        refine T.seq ?_
        refine T.region ?_
        refine L.move rfl rfl ?_
        refine L.assign rfl rfl ?_
        refine L.nil ?_
        refine T.thenN ?_
        refine T.ret ?_
        refine T.blkR ?_
        refine T.thenR ?_
        refine T.thenR ?_
        refine T.blkR ?_
        refine T.thenR ?_
        exact T.ret1 rfl rfl ⟨congrArg (Value.int .i64) (by unfold refW; rw [← hys, find_atQ hall hgi hok]; rfl), rfl, rfl⟩ qD qF
      · try simp only [decide_eq_true_eq, decide_eq_false_iff_not, Bool.not_eq_true', Bool.not_eq_false', Bool.and_eq_true, Bool.or_eq_true] at h38
        have hok : okW o ol ll w.2.1 y = false := decide_eq_false (fun e => by rw [e.1] at h38; exact absurd h38 (by decide))
        refine T.skip ?_
        refine T.blkN ?_
        refine T.thenN ?_
        refine T.region ?_
        refine L.addN rfl rfl rfl (by omega) ?_
        refine L.move rfl rfl ?_
        refine L.nil ?_
        refine T.thenN ?_
        exact T.back ⟨i + 1, ⟨by omega, find_s hall hgi hok⟩, rfl, rfl, rfl, rfl⟩ qI (.cons (t := 17) rfl <| SubK.nil _) (.cons (t := 4) rfl <| .cons (t := 5) rfl <| .cons (t := 15) rfl <| .cons (t := 16) rfl <| SubK.nil _) qD qD qF
  · try simp only [decide_eq_true_eq, decide_eq_false_iff_not, Bool.not_eq_true', Bool.not_eq_false', Bool.and_eq_true, Bool.or_eq_true] at h18
    obtain hie : ys.length = i := by omega
    rw [List.take_of_length_le (by omega)] at hall
    refine T.exit ?_
    refine T.thenX ?_
    refine T.thenX ?_
    refine T.blkX ?_
    refine T.thenN ?_
    refine T.seq ?_
    refine T.region ?_
    refine L.assign rfl rfl ?_
    refine L.nil ?_
    refine T.thenN ?_
    refine T.ret ?_
    exact T.ret1 rfl rfl ⟨congrArg (Value.int .i64) (by unfold refW; rw [← hys, find_none hall]; rfl), rfl, rfl⟩ qD qF
set_option maxHeartbeats 400000 in
theorem rlack_spec {o sq : Int} {oa la ma : Option Addr} {on oc ln lc mn mc : Nat} {ll : List (LK × Int)} {n u : Int} {id : ID32} (hln : ln ≤ 1000000) : Spec Tryz.prog 70 [.agg (xC o sq oa on oc la ln lc ma mn mc).toArray, .int .i64 n, S id.1, .int .i64 u] [rsl 3 la ln lc (ll.map kR)] [] (fun v D' M' => ∃ (a1 : Option Addr) (l1 c1 : Nat), v = .agg (xC o sq oa on oc a1 l1 c1 ma mn mc).toArray ∧ (l1 = (setK ll (n, id) u).length) ∧ D' = [rsl 3 a1 l1 c1 ((setK ll (n, id) u).map kR)] ∧ M' = []) := by
  refine Spec.intro (n := 44) Tryz.func70 rfl rfl (by decide) (Nat.le_of_ble_eq_true rfl) rfl (fun _ => qA) (fun _ => qA) ?_
  intro σ D M
  refine T.rslLen2 (rows := ll.map kR) qM (fun hll hlc => ?_)
  rw [List.length_map] at hll
  refine T.seq ?_
  refine T.region ?_
  refine L.box rfl rfl rfl (fun b4 => ?_)
  refine L.alloc rfl ze34 (fun b8 => ?_)
  refine L.nil ?_
  refine T.thenN ?_
  refine T.seq ?_
  refine T.region ?_
  refine L.buildSlice rfl bs31 (by decide) (BP.doneE (out := []) rfl) (fun b12 => ?_)
  refine L.toOwn (len := 0) qP (rows := ([] : List (LK × Int)).map kR) (sz := 3) (by rfl) rfl (by simp) ?_
  refine L.assign rfl rfl ?_
  refine L.nil ?_
  refine T.thenN ?_
  refine T.seq ?_
  refine T.seq ?_
  refine T.region ?_
  first | refine L.field0 rfl fo34_3 rfl ?_ | refine L.field rfl fo34_3 rfl ?_
  refine L.load rfl sc31 rfl qC ?_
  refine L.lenSl rfl Tryz.underlying31 rfl ?_
  refine L.move rfl rfl ?_
  refine L.nil ?_
  refine T.thenN ?_
  refine T.block ?_
  refine T.loop (fun K' D' M' μ => ∃ (j : Nat) (a1 : Option Addr) (l1 c1 : Nat), (j ≤ ln ∧ l1 = ((ll.take j).filter (fun p => decide (p.1 ≠ (n, id)))).length) ∧ K' = [(16, .int .i64 j), (9, .slice a1 l1 c1)] ∧ D' = [] ∧ M' = [own 3 141 a1 l1 c1 (((ll.take j).filter (fun p => decide (p.1 ≠ (n, id)))).map kR)] ∧ μ = ln - j) (.cons (t := 1) rfl <| .cons (t := 2) rfl <| .cons (t := 3) rfl <| .cons (t := 4) rfl <| .cons (t := 8) rfl <| .cons (t := 14) rfl <| .cons (t := 15) rfl <| SubK.nil _) (⟨0, _, _, _, ⟨by omega, by simp⟩, rfl, rfl, rfl, rfl⟩) (.cons (t := 16) rfl <| .cons (t := 9) rfl <| SubK.nil _) qD qS ?_
  rintro K1 D1 M1 m1 ⟨j, a1, l1, c1, ⟨hj, hl1⟩, rfl, rfl, rfl, rfl⟩
  refine T.norm3 qA qA qA ?_
  have hfl := filK_len (l := ll) (n := (n, id)) j
  rw [← hl1] at hfl
  refine T.seq ?_
  refine T.region ?_
  refine L.ltI rfl rfl rfl ?_
  refine L.nil ?_
  refine T.thenN ?_
  refine T.seq ?_
  refine T.cond rfl (fun h17 => ?_) (fun h17 => ?_)
  · try simp only [decide_eq_true_eq, decide_eq_false_iff_not, Bool.not_eq_true', Bool.not_eq_false', Bool.and_eq_true, Bool.or_eq_true] at h17
    refine T.skip ?_
    refine T.thenN ?_
    refine T.seq ?_
    refine T.block ?_
    refine T.seq ?_
    obtain ⟨e, hgj⟩ := ex_get (l := ll) (k := j) (by omega)
    have hgo : (ll.map kR)[j]? = some (kR e) := map_get hgj
    refine T.region ?_
    refine L.idx (i := j) rfl Tryz.underlying31 sz141 rfl rfl qM (by first | rfl | omega | (simp; done)) qG (fun b18 o18 => ?_)
    refine L.loadA rfl ag141 rfl qN ?_
    refine L.alloc rfl ze141 (fun b11 => ?_)
    refine L.storeA ag141 rfl rfl qL qO qU qW ?_
    refine L.nil ?_
    refine T.thenN ?_
    refine T.seq ?_
    rcases Decidable.em (e.1.1 ≠ n) with h1 | h1
    · skip
      have hne : ¬ e.1 = (n, id) := fun h => h1 (by rw [h])
      refine T.region ?_
      first | refine L.field0 rfl fo141_0 rfl ?_ | refine L.field rfl fo141_0 rfl ?_
      refine L.load rfl sc3 rfl qC ?_
      refine L.move rfl rfl ?_
      refine L.neI rfl rfl rfl ?_
      refine L.move rfl rfl ?_
      refine L.known (t := 24) rfl (show _ = Value.bool true from congrArg Value.bool (decide_eq_true h1)) ?_
      refine L.guardF (dj := 24) (c := true) rfl rfl rfl rfl rfl (by decide) ?_
      refine L.guardF (dj := 24) (c := true) rfl rfl rfl rfl rfl (by decide) ?_
      refine L.guardF (dj := 24) (c := true) rfl rfl rfl rfl rfl (by decide) ?_
      refine L.guardF (dj := 24) (c := true) rfl rfl rfl rfl rfl (by decide) ?_
      refine L.pickT rfl rfl rfl ?_
      refine L.nil ?_
      refine T.thenN ?_
      refine T.condT rfl rfl ?_
      refine T.region ?_
      refine L.move rfl rfl ?_
      refine L.loadA rfl ag141 rfl qN ?_
      refine L.buildSlice rfl bs31 (by decide) (BP.agg rfl rfl (by first | with_reducible assumption | (simp; done) | (simp only [List.length_map]; with_reducible assumption) | (simp [*]; done) | rfl) (Nat.le_of_ble_eq_true rfl) qR <| BP.doneE (out := []) rfl) (fun b32 => ?_)
      refine L.append1 rfl Tryz.underlying31 el141 rfl rfl qP qM rfl qO1 qI qI (fun a33 c33 => ?_)
      refine L.assign rfl rfl ?_
      refine L.nil ?_
      refine T.blkN ?_
      refine T.thenN ?_
      refine T.region ?_
      refine L.addN rfl rfl rfl (by omega) ?_
      refine L.move rfl rfl ?_
      refine L.nil ?_
      refine T.thenN ?_
      refine T.ownEq a33 (((ll.take (j + 1)).filter (fun p => decide (p.1 ≠ (n, id)))).map kR) qP (by rw [filK_yes hgj hne, snocM]) ?_
      exact T.back ⟨j + 1, _, _, _, ⟨by omega, by rw [filK_yes hgj hne, List.length_append, ← hl1]; rfl⟩, rfl, rfl, rfl, rfl⟩ qI (.cons (t := 16) rfl <| .cons (t := 9) rfl <| SubK.nil _) (.cons (t := 1) rfl <| .cons (t := 2) rfl <| .cons (t := 3) rfl <| .cons (t := 4) rfl <| .cons (t := 8) rfl <| .cons (t := 14) rfl <| .cons (t := 15) rfl <| SubK.nil _) qD qD qF
    · skip
      refine T.region ?_
      first | refine L.field0 rfl fo141_0 rfl ?_ | refine L.field rfl fo141_0 rfl ?_
      refine L.load rfl sc3 rfl qC ?_
      refine L.move rfl rfl ?_
      refine L.neI rfl rfl rfl ?_
      refine L.move rfl rfl ?_
      refine L.known (t := 24) rfl (show _ = Value.bool false from congrArg Value.bool (decide_eq_false h1)) ?_
      refine L.guardT (dj := 24) rfl rfl rfl ?_
      first | refine L.field0 rfl fo141_1 rfl ?_ | refine L.field rfl fo141_1 rfl ?_
      refine L.guardT (dj := 24) rfl rfl rfl ?_
      refine L.load rfl sc9 rfl qC ?_
      refine L.guardT (dj := 24) rfl rfl rfl ?_
      refine L.move rfl rfl ?_
      refine L.guardT (dj := 24) rfl rfl rfl ?_
      refine L.neS rfl rfl rfl ?_
      refine L.pickF rfl rfl rfl ?_
      refine L.nil ?_
      refine T.thenN ?_
      refine T.cond rfl (fun h29 => ?_) (fun h29 => ?_)
      · try simp only [decide_eq_true_eq, decide_eq_false_iff_not, Bool.not_eq_true', Bool.not_eq_false', Bool.and_eq_true, Bool.or_eq_true] at h29
        have hne : ¬ e.1 = (n, id) := fun h => h29 (by rw [h])
        refine T.region ?_
        refine L.move rfl rfl ?_
        refine L.loadA rfl ag141 rfl qN ?_
        refine L.buildSlice rfl bs31 (by decide) (BP.agg rfl rfl (by first | with_reducible assumption | (simp; done) | (simp only [List.length_map]; with_reducible assumption) | (simp [*]; done) | rfl) (Nat.le_of_ble_eq_true rfl) qR <| BP.doneE (out := []) rfl) (fun b32 => ?_)
        refine L.append1 rfl Tryz.underlying31 el141 rfl rfl qP qM rfl qO1 qI qI (fun a33 c33 => ?_)
        refine L.assign rfl rfl ?_
        refine L.nil ?_
        refine T.blkN ?_
        refine T.thenN ?_
        refine T.region ?_
        refine L.addN rfl rfl rfl (by omega) ?_
        refine L.move rfl rfl ?_
        refine L.nil ?_
        refine T.thenN ?_
        refine T.ownEq a33 (((ll.take (j + 1)).filter (fun p => decide (p.1 ≠ (n, id)))).map kR) qP (by rw [filK_yes hgj hne, snocM]) ?_
        exact T.back ⟨j + 1, _, _, _, ⟨by omega, by rw [filK_yes hgj hne, List.length_append, ← hl1]; rfl⟩, rfl, rfl, rfl, rfl⟩ qI (.cons (t := 16) rfl <| .cons (t := 9) rfl <| SubK.nil _) (.cons (t := 1) rfl <| .cons (t := 2) rfl <| .cons (t := 3) rfl <| .cons (t := 4) rfl <| .cons (t := 8) rfl <| .cons (t := 14) rfl <| .cons (t := 15) rfl <| SubK.nil _) qD qD qF
      · try simp only [decide_eq_true_eq, decide_eq_false_iff_not, Bool.not_eq_true', Bool.not_eq_false', Bool.and_eq_true, Bool.or_eq_true] at h29
        have heq : e.1 = (n, id) := k_eq (Decidable.not_not.1 h1) (by first | exact h29 | exact Decidable.not_not.1 h29)
        refine T.skip ?_
        refine T.blkN ?_
        refine T.thenN ?_
        refine T.region ?_
        refine L.addN rfl rfl rfl (by omega) ?_
        refine L.move rfl rfl ?_
        refine L.nil ?_
        refine T.thenN ?_
        refine T.ownEq a1 (((ll.take (j + 1)).filter (fun p => decide (p.1 ≠ (n, id)))).map kR) qP (by rw [filK_no hgj heq]) ?_
        exact T.back ⟨j + 1, _, _, _, ⟨by omega, by rw [filK_no hgj heq]; exact hl1⟩, rfl, rfl, rfl, rfl⟩ qI (.cons (t := 16) rfl <| .cons (t := 9) rfl <| SubK.nil _) (.cons (t := 1) rfl <| .cons (t := 2) rfl <| .cons (t := 3) rfl <| .cons (t := 4) rfl <| .cons (t := 8) rfl <| .cons (t := 14) rfl <| .cons (t := 15) rfl <| SubK.nil _) qD qD qF
  · try simp only [decide_eq_true_eq, decide_eq_false_iff_not, Bool.not_eq_true', Bool.not_eq_false', Bool.and_eq_true, Bool.or_eq_true] at h17
    obtain rfl : ln = j := by omega
    rw [List.take_of_length_le (by omega)] at hl1
    refine T.exit ?_
    refine T.thenX ?_
    refine T.thenX ?_
    refine T.blkX ?_
    refine T.thenN ?_
    refine T.seq ?_
    refine T.region ?_
    refine L.move rfl rfl ?_
    refine L.move rfl rfl ?_
    refine L.move rfl rfl ?_
    refine L.move rfl rfl ?_
    refine L.build rfl bu141 (BP.one rfl rfl rfl <| BP.one rfl rfl rfl <| BP.one rfl rfl rfl <| BP.doneE (out := []) rfl) ?_
    refine L.buildSlice rfl bs31 (by decide) (BP.agg rfl rfl (by first | with_reducible assumption | (simp; done) | (simp only [List.length_map]; with_reducible assumption) | (simp [*]; done) | rfl) (Nat.le_of_ble_eq_true rfl) qR <| BP.doneE (out := []) rfl) (fun b40 => ?_)
    refine L.append1 rfl Tryz.underlying31 el141 rfl rfl qP qM rfl qO1 qI qI (fun a41 c41 => ?_)
    first | refine L.field0 rfl fo34_3 rfl ?_ | refine L.field rfl fo34_3 rfl ?_
    refine L.store sc31 rfl rfl rfl qU qE ?_
    refine L.nil ?_
    refine T.ownEq a41 ((setK ll (n, id) u).map kR) qP (by rw [setK, snocM, List.take_of_length_le (by omega)]) ?_
    refine T.ownRsl qP ?_
    refine T.thenN ?_
    refine T.seq ?_
    refine T.region ?_
    refine L.loadA rfl ag34 rfl qN ?_
    refine L.storeA ag34 rfl rfl qL qO qU qW ?_
    refine L.nil ?_
    refine T.thenN ?_
    refine T.ret ?_
    exact T.retA rfl ag34 rfl qN ⟨_, _, _, rfl, (by rw [setK, List.length_append, ← hl1]; rfl), rfl, rfl⟩ qD qF
set_option maxHeartbeats 400000 in
theorem rwithout_spec {o sq : Int} {oa la ma : Option Addr} {on oc ln lc mn mc : Nat} {ol : List Ord} {i : Nat} (hon : on ≤ 1000000) (hi : i < on) : Spec Tryz.prog 71 [.agg (xC o sq oa on oc la ln lc ma mn mc).toArray, .int .i64 (i : Int)] [rsl 6 oa on oc (ol.map oR)] [] (fun v D' M' => ∃ (a1 : Option Addr) (l1 c1 : Nat), v = .agg (xC o sq a1 l1 c1 la ln lc ma mn mc).toArray ∧ (l1 = (ol.eraseIdx i).length) ∧ D' = [rsl 6 a1 l1 c1 ((ol.eraseIdx i).map oR)] ∧ M' = []) := by
  refine Spec.intro (n := 19) Tryz.func71 rfl rfl (by decide) (Nat.le_of_ble_eq_true rfl) rfl (fun _ => qA) (fun _ => qA) ?_
  intro σ D M
  refine T.rslLen2 (rows := ol.map oR) qM (fun hol hoc => ?_)
  rw [List.length_map] at hol
  refine T.seq ?_
  refine T.region ?_
  refine L.box rfl rfl rfl (fun b2 => ?_)
  refine L.alloc rfl ze34 (fun b4 => ?_)
  refine L.nil ?_
  refine T.thenN ?_
  refine T.seq ?_
  refine T.derive (ψ := rsl 6 (cutA oa oc 0 6) (i - 0) (oc - 0) (((ol.map oR).drop 0).take (i - 0))) qM (fun z H => rsl_cut (by omega) (by omega) H) ?_
  refine T.derive (ψ := rsl 6 (cutA oa oc (i + 1) 6) (on - (i + 1)) (oc - (i + 1)) (((ol.map oR).drop (i + 1)).take (on - (i + 1)))) qM (fun z H => rsl_cut (by omega) (by omega) H) ?_
  refine T.regionA (clsL [0, 1, 0, 1, 0, 0, 1, 0, 1, 1, 0, 2, 1, 2]) (by kernel_rfl) ?_
  refine A.takeP (i := 1) rfl rfl rfl rfl (by kernel_rfl) (by kernel_rfl) (by kernel_rfl) rfl qD ?_
  first | refine L.field0 rfl fo34_2 rfl ?_ | refine L.field rfl fo34_2 rfl ?_
  refine A.took ?_
  refine A.takeP (i := 3) rfl rfl rfl rfl (by kernel_rfl) (by kernel_rfl) (by kernel_rfl) rfl qD ?_
  refine L.move rfl rfl ?_
  refine A.took ?_
  refine A.takeP (i := 6) rfl rfl rfl rfl (by kernel_rfl) (by kernel_rfl) (by kernel_rfl) rfl qD ?_
  first | refine L.field0 rfl fo34_2 rfl ?_ | refine L.field rfl fo34_2 rfl ?_
  refine A.took ?_
  refine A.takeP (i := 8) rfl rfl rfl rfl (by kernel_rfl) (by kernel_rfl) (by kernel_rfl) rfl qD ?_
  refine L.move rfl rfl ?_
  refine A.took ?_
  refine A.takeP (i := 9) rfl rfl rfl rfl (by kernel_rfl) (by kernel_rfl) (by kernel_rfl) rfl qD ?_
  refine L.addN rfl rfl rfl (by omega) ?_
  refine L.known (t := 14) (u := .int .i64 ((i + 1 : Nat) : Int)) rfl (by rfl) ?_
  refine A.took ?_
  refine A.take (i := 2) rfl rfl rfl rfl (by kernel_rfl) (by kernel_rfl) (by kernel_rfl) (by kernel_rfl) rfl qD qF ?_
  refine L.load rfl sc30 rfl qC ?_
  refine A.took ?_
  refine A.take (i := 4) rfl rfl rfl rfl (by kernel_rfl) (by kernel_rfl) (by kernel_rfl) (by kernel_rfl) rfl qD qF ?_
  refine L.sliceSl rfl Tryz.underlying30 sz47 rfl Bd.no (Bd.at (x := i) rfl (by first | rfl | omega | (simp; done))) qI qI ?_
  refine A.took ?_
  refine A.take (i := 7) rfl rfl rfl rfl (by kernel_rfl) (by kernel_rfl) (by kernel_rfl) (by kernel_rfl) rfl qD qF ?_
  refine L.load rfl sc30 rfl qC ?_
  refine A.took ?_
  refine A.take (i := 10) rfl rfl rfl rfl (by kernel_rfl) (by kernel_rfl) (by kernel_rfl) (by kernel_rfl) rfl qD qF ?_
  refine L.sliceSl rfl Tryz.underlying30 sz47 rfl (Bd.at (x := i + 1) rfl (by first | rfl | omega | (simp; done))) Bd.no qI qI ?_
  refine A.took ?_
  refine A.branch (is := [0]) (by kernel_rfl) (by decide) (Each.cons rfl ?_ <| Each.nil) 
  refine L.buildSlice rfl bs30 (by decide) (BP.doneE (out := []) rfl) (fun b5 => ?_)
  refine L.toOwn (len := 0) qP (rows := ([] : List Ord).map oR) (sz := 6) (by rfl) rfl (by simp) ?_
  refine A.back rfl qD qF ?_
  refine A.branch (is := [5]) (by kernel_rfl) (by decide) (Each.cons rfl ?_ <| Each.nil) 
  refine L.appendR rfl Tryz.underlying30 Tryz.underlying30 el47 rfl rfl qP (rd_D qM) one_oR qI qI (fun a10 c10 => ?_)
  refine A.back rfl qD qF ?_
  refine A.branch (is := [11]) (by kernel_rfl) (by decide) (Each.cons rfl ?_ <| Each.nil) 
  refine L.appendR rfl Tryz.underlying30 Tryz.underlying30 el47 rfl rfl qP (rd_D qM) one_oR qI qI (fun a16 c16 => ?_)
  refine A.backT rfl qD ?_
  refine A.takeP (i := 12) rfl rfl rfl rfl (by kernel_rfl) (by kernel_rfl) (by kernel_rfl) rfl qD ?_
  first | refine L.field0 rfl fo34_2 rfl ?_ | refine L.field rfl fo34_2 rfl ?_
  refine A.took ?_
  refine A.branch (is := [13]) (by kernel_rfl) (by decide) (Each.cons rfl ?_ <| Each.nil) 
  refine L.store sc30 rfl rfl rfl qU qE ?_
  refine A.backT rfl qD ?_
  refine A.done (by kernel_rfl) ?_
  refine T.ownEq a16 ((ol.eraseIdx i).map oR) qP (by rw [List.eraseIdx_eq_take_drop_succ, List.map_append, List.map_take, List.map_drop, List.map_nil, List.nil_append, List.drop_zero, Nat.sub_zero]; congr 1; exact List.take_of_length_le (by simp; omega)) ?_
  refine T.ownRsl qP ?_
  refine T.thenN ?_
  refine T.seq ?_
  refine T.region ?_
  refine L.loadA rfl ag34 rfl qN ?_
  refine L.storeA ag34 rfl rfl qL qO qU qW ?_
  refine L.nil ?_
  refine T.thenN ?_
  refine T.ret ?_
  exact T.retA rfl ag34 rfl qN ⟨_, _, _, rfl, (by rw [List.length_eraseIdx, if_pos (by omega)]; omega), rfl, rfl⟩ qD qF
end Cv
