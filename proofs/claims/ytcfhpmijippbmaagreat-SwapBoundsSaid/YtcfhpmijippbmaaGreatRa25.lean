/-
  The walks: the reference's orders.
-/
import Derived.Test.YtcfhpmijippbmaaGreatP25
import Derived.Test.YtcfhpmijippbmaaGreatZa25
import Derived.Test.YtcfhpmijippbmaaGreatProg
import Derived.KernelRfl
set_option linter.unusedVariables false
set_option linter.unusedSimpArgs false
set_option linter.unusedSectionVars false
set_option maxRecDepth 10000
namespace Cv
open Go Go.Proofs
/-! ## the reference's swap -/
@[reducible] def oR (x : Ord) : List Value := [.int .i64 x.1.1, S x.1.2.1.1, .int .i64 x.1.2.2, .int .i64 x.2.1, .int .i64 x.2.2.1, .int .i64 x.2.2.2]
@[reducible] def kR (e : LK × Int) : List Value := [.int .i64 e.1.1, S e.1.2.1, .int .i64 e.2]
@[reducible] def wR (w : Wnt) : List Value := [.int .i64 w.1, S w.2.1.1, .int .i64 w.2.2]
@[reducible] def xC (o sq : Int) (oa : Option Addr) (on oc : Nat) (la : Option Addr) (ln lc : Nat) (ma : Option Addr) (mn mc : Nat) : List Value := [.int .i64 o, .int .i64 sq, .slice oa on oc, .slice la ln lc, .slice ma mn mc]
def ordB (ol : List Ord) (id : ID32) : Bool := ol.any fun x => decide (x.1.2.1.1 = id.1)
theorem ord_no {ol : List Ord} {id : ID32} (h : ∀ x ∈ ol, ¬ x.1.2.1.1 = id.1) : ordB ol id = false := by
  unfold ordB; rw [List.any_eq_false]; intro x hx; simpa using h x hx
theorem ord_yes {ol : List Ord} {id : ID32} {x : Ord} (hx : x ∈ ol) (h : x.1.2.1.1 = id.1) : ordB ol id = true := by
  unfold ordB; rw [List.any_eq_true]; exact ⟨x, hx, by simpa using h⟩
theorem all_step {α : Type} {P : α → Prop} {l : List α} {j : Nat} {x : α} (h : ∀ y ∈ l.take j, P y) (hx : l[j]? = some x) (hp : P x) : ∀ y ∈ l.take (j + 1), P y := fun y hy => by
  rw [List.take_add_one, hx] at hy
  rcases List.mem_append.1 hy with e | e
  · exact h y e
  · simp at e; rw [e]; exact hp
theorem k_eq {e : LK × Int} {n : Int} {id : ID32} (h1 : e.1.1 = n) (h2 : e.1.2.1 = id.1) : e.1 = (n, id) := Prod.ext h1 (Subtype.ext h2)
def setK (ll : List (LK × Int)) (k : LK) (u : Int) : List (LK × Int) := ll.filter (fun e => decide (e.1 ≠ k)) ++ [(k, u)]
theorem filK_no {l : List (LK × Int)} {k : Nat} {p : LK × Int} {n : LK} (h : l[k]? = some p) (hn : p.1 = n) : (l.take (k + 1)).filter (fun p => decide (p.1 ≠ n)) = (l.take k).filter (fun p => decide (p.1 ≠ n)) := by
  rw [List.take_add_one, h, List.filter_append]; simp [hn]
theorem filK_yes {l : List (LK × Int)} {k : Nat} {p : LK × Int} {n : LK} (h : l[k]? = some p) (hn : ¬ p.1 = n) : (l.take (k + 1)).filter (fun p => decide (p.1 ≠ n)) = (l.take k).filter (fun p => decide (p.1 ≠ n)) ++ [p] := by
  rw [List.take_add_one, h, List.filter_append]; simp [hn]
theorem filK_len {l : List (LK × Int)} {n : LK} (k : Nat) : ((l.take k).filter (fun p => decide (p.1 ≠ n))).length ≤ k := Nat.le_trans (List.length_filter_le _ _) (by rw [List.length_take]; omega)
theorem snocM {α : Type} {f : α → List Value} {l : List α} {x : α} : (l ++ [x]).map f = l.map f ++ [f x] := by simp
theorem fil_s1 {α : Type} {p : α → Bool} {l : List α} {j : Nat} {x : α} (h : l[j]? = some x) (hp : p x = true) : (l.take (j + 1)).filter p = (l.take j).filter p ++ [x] := by
  rw [List.take_add_one, h, List.filter_append]; simp [hp]
theorem fil_s0 {α : Type} {p : α → Bool} {l : List α} {j : Nat} {x : α} (h : l[j]? = some x) (hp : p x = false) : (l.take (j + 1)).filter p = (l.take j).filter p := by
  rw [List.take_add_one, h, List.filter_append]; simp [hp]
theorem fil_lt {α : Type} {p : α → Bool} {l : List α} {j : Nat} : ((l.take j).filter p).length ≤ j := Nat.le_trans (List.length_filter_le _ _) (by rw [List.length_take]; omega)
def silL (now : Int) (ml : List (Int × Mind)) (x : Ord) : List (Int × Mind) := setL ml x.2.1 (silM (atM ml x.2.1) now)
def refW (F : Int → Mind) (hs : List Int) (now o : Int) (ol : List Ord) (ll : List (LK × Int)) (id : ID32) : Int := ((sortR (cR F) (fun x => mayB F x now) hs hs.length).find? (okW o ol ll id)).getD (-1)
theorem fo34_2 : Fo Tryz.prog 34 2 2 := fun a w => by kernel_rfl
theorem sc30 : Sc Tryz.prog 30 := fun w => ⟨by kernel_rfl, by kernel_rfl⟩
theorem sz47 : Sz Tryz.prog 47 6 := fun w => by kernel_rfl
theorem ag47 : Ag Tryz.prog 47 6 := fun w => ⟨by kernel_rfl, by kernel_rfl⟩
theorem zv47 : ∀ w, (zeroValue 47).run Tryz.prog w = .ok (Value.agg #[Value.int .i64 0, S [], Value.int .i64 0, Value.int .i64 0, Value.int .i64 0, Value.int .i64 0]) w := fun w => by kernel_rfl
theorem ze47 : Ze Tryz.prog 47 [Value.int .i64 0, S [], Value.int .i64 0, Value.int .i64 0, Value.int .i64 0, Value.int .i64 0] := ⟨_, rfl, zv47⟩
theorem fo47_0 : Fo Tryz.prog 47 0 0 := fun a w => by kernel_rfl
theorem fo45_1 : Fo Tryz.prog 45 1 1 := fun a w => by kernel_rfl
theorem fo47_1 : Fo Tryz.prog 47 1 3 := fun a w => by kernel_rfl
theorem fo34_3 : Fo Tryz.prog 34 3 3 := fun a w => by kernel_rfl
theorem sc31 : Sc Tryz.prog 31 := fun w => ⟨by kernel_rfl, by kernel_rfl⟩
theorem sz141 : Sz Tryz.prog 141 3 := fun w => by kernel_rfl
theorem ag141 : Ag Tryz.prog 141 3 := fun w => ⟨by kernel_rfl, by kernel_rfl⟩
theorem zv141 : ∀ w, (zeroValue 141).run Tryz.prog w = .ok (Value.agg #[Value.int .i64 0, S [], Value.int .i64 0]) w := fun w => by kernel_rfl
theorem ze141 : Ze Tryz.prog 141 [Value.int .i64 0, S [], Value.int .i64 0] := ⟨_, rfl, zv141⟩
theorem fo141_0 : Fo Tryz.prog 141 0 0 := fun a w => by kernel_rfl
theorem fo141_1 : Fo Tryz.prog 141 1 1 := fun a w => by kernel_rfl
set_option maxHeartbeats 400000 in
theorem rord_spec {o sq : Int} {oa la ma : Option Addr} {on oc ln lc mn mc : Nat} {ol : List Ord} {id : ID32} (hon : on ≤ 1000000) : Spec Tryz.prog 38 [.agg (xC o sq oa on oc la ln lc ma mn mc).toArray, S id.1] [rsl 6 oa on oc (ol.map oR)] [] (fun v D' M' => v = .bool (ordB ol id) ∧ D' = [] ∧ M' = []) := by
  refine Spec.intro (n := 20) Tryz.func38 rfl rfl (by decide) (Nat.le_of_ble_eq_true rfl) rfl (fun _ => qA) (fun _ => qA) ?_
  intro σ D M
  refine T.rslLen2 (rows := ol.map oR) qM (fun hol hoc => ?_)
  rw [List.length_map] at hol
  refine T.seq ?_
  refine T.region ?_
  refine L.box rfl rfl rfl (fun b2 => ?_)
  refine L.assign rfl rfl ?_
  refine L.nil ?_
  refine T.thenN ?_
  refine T.seq ?_
  refine T.seq ?_
  refine T.region ?_
  first | refine L.field0 rfl fo34_2 rfl ?_ | refine L.field rfl fo34_2 rfl ?_
  refine L.load rfl sc30 rfl qC ?_
  refine L.lenSl rfl Tryz.underlying30 rfl ?_
  refine L.move rfl rfl ?_
  refine L.nil ?_
  refine T.thenN ?_
  refine T.block ?_
  refine T.loop (fun K' D' M' μ => ∃ (j : Nat), (j ≤ on ∧ ∀ x ∈ ol.take j, ¬ x.1.2.1.1 = id.1) ∧ K' = [(10, .int .i64 j)] ∧ D' = [] ∧ M' = [] ∧ μ = on - j) (.cons (t := 1) rfl <| .cons (t := 8) rfl <| .cons (t := 9) rfl <| SubK.nil _) (⟨0, ⟨by omega, by simp⟩, rfl, rfl, rfl, rfl⟩) (.cons (t := 10) rfl <| SubK.nil _) qD qS ?_
  rintro K1 D1 M1 m1 ⟨j, ⟨hj, hall⟩, rfl, rfl, rfl, rfl⟩
  refine T.norm3 qA qA qA ?_
  refine T.seq ?_
  refine T.region ?_
  refine L.ltI rfl rfl rfl ?_
  refine L.nil ?_
  refine T.thenN ?_
  refine T.seq ?_
  refine T.cond rfl (fun h11 => ?_) (fun h11 => ?_)
  · try simp only [decide_eq_true_eq, decide_eq_false_iff_not, Bool.not_eq_true', Bool.not_eq_false', Bool.and_eq_true, Bool.or_eq_true] at h11
    refine T.skip ?_
    refine T.thenN ?_
    refine T.seq ?_
    refine T.block ?_
    refine T.seq ?_
    obtain ⟨x, hgj⟩ := ex_get (l := ol) (k := j) (by omega)
    have hgo : (ol.map oR)[j]? = some (oR x) := map_get hgj
    refine T.region ?_
    refine L.idx (i := j) rfl Tryz.underlying30 sz47 rfl rfl qM (by first | rfl | omega | (simp; done)) qG (fun b12 o12 => ?_)
    refine L.loadA rfl ag47 rfl qN ?_
    refine L.alloc rfl ze47 (fun b6 => ?_)
    refine L.storeA ag47 rfl rfl qL qO qU qW ?_
    refine L.nil ?_
    refine T.thenN ?_
    refine T.seq ?_
    refine T.region ?_
    first | refine L.field0 rfl fo47_0 rfl ?_ | refine L.field rfl fo47_0 rfl ?_
    first | refine L.field0 rfl fo45_1 rfl ?_ | refine L.field rfl fo45_1 rfl ?_
    refine L.load rfl sc9 rfl qC ?_
    refine L.move rfl rfl ?_
    refine L.eqS rfl rfl rfl ?_
    refine L.nil ?_
    refine T.thenN ?_
    refine T.cond rfl (fun h18 => ?_) (fun h18 => ?_)
    · try simp only [decide_eq_true_eq, decide_eq_false_iff_not, Bool.not_eq_true', Bool.not_eq_false', Bool.and_eq_true, Bool.or_eq_true] at h18
      refine T.seq ?_
      refine T.region ?_
      refine L.assign rfl rfl ?_
      refine L.nil ?_
      refine T.thenN ?_
      refine T.ret ?_
      refine T.blkR ?_
      refine T.thenR ?_
      refine T.thenR ?_
      refine T.blkR ?_
      refine T.thenR ?_
      exact T.ret1 rfl rfl ⟨congrArg Value.bool (ord_yes (List.mem_of_getElem? hgj) h18).symm, rfl, rfl⟩ qD qF
    · try simp only [decide_eq_true_eq, decide_eq_false_iff_not, Bool.not_eq_true', Bool.not_eq_false', Bool.and_eq_true, Bool.or_eq_true] at h18
      refine T.skip ?_
      refine T.blkN ?_
      refine T.thenN ?_
      refine T.region ?_
      refine L.addN rfl rfl rfl (by omega) ?_
      refine L.move rfl rfl ?_
      refine L.nil ?_
      refine T.thenN ?_
      exact T.back ⟨j + 1, ⟨by omega, all_step (P := fun x => ¬ x.1.2.1.1 = id.1) hall hgj h18⟩, rfl, rfl, rfl, rfl⟩ qI (.cons (t := 10) rfl <| SubK.nil _) (.cons (t := 1) rfl <| .cons (t := 8) rfl <| .cons (t := 9) rfl <| SubK.nil _) qD qD qF
  · try simp only [decide_eq_true_eq, decide_eq_false_iff_not, Bool.not_eq_true', Bool.not_eq_false', Bool.and_eq_true, Bool.or_eq_true] at h11
    obtain rfl : on = j := by omega
    rw [List.take_of_length_le (by omega)] at hall
    refine T.exit ?_
    refine T.thenX ?_
    refine T.thenX ?_
    refine T.blkX ?_
    refine T.thenN ?_
    refine T.seq ?_
    refine T.region ?_
    refine L.assign rfl rfl ?_
    refine L.nil ?_
    refine T.thenN ?_
    refine T.ret ?_
    exact T.ret1 rfl rfl ⟨congrArg Value.bool (ord_no hall).symm, rfl, rfl⟩ qD qF
set_option maxHeartbeats 400000 in
theorem rbusy_spec {o sq : Int} {oa la ma : Option Addr} {on oc ln lc mn mc : Nat} {ol : List Ord} {n : Int} (hon : on ≤ 1000000) : Spec Tryz.prog 63 [.agg (xC o sq oa on oc la ln lc ma mn mc).toArray, .int .i64 n] [rsl 6 oa on oc (ol.map oR)] [] (fun v D' M' => v = .int .i64 (cntO ol n : Int) ∧ D' = [] ∧ M' = []) := by
  refine Spec.intro (n := 23) Tryz.func63 rfl rfl (by decide) (Nat.le_of_ble_eq_true rfl) rfl (fun _ => qA) (fun _ => qA) ?_
  intro σ D M
  refine T.rslLen2 (rows := ol.map oR) qM (fun hol hoc => ?_)
  rw [List.length_map] at hol
  refine T.seq ?_
  refine T.region ?_
  refine L.box rfl rfl rfl (fun b2 => ?_)
  refine L.assign rfl rfl ?_
  refine L.nil ?_
  refine T.thenN ?_
  refine T.seq ?_
  refine T.region ?_
  refine L.assign rfl rfl ?_
  refine L.nil ?_
  refine T.thenN ?_
  refine T.seq ?_
  refine T.seq ?_
  refine T.region ?_
  first | refine L.field0 rfl fo34_2 rfl ?_ | refine L.field rfl fo34_2 rfl ?_
  refine L.load rfl sc30 rfl qC ?_
  refine L.lenSl rfl Tryz.underlying30 rfl ?_
  refine L.move rfl rfl ?_
  refine L.nil ?_
  refine T.thenN ?_
  refine T.block ?_
  refine T.loop (fun K' D' M' μ => ∃ (j c : Nat), ((j ≤ on ∧ c ≤ j) ∧ c = cntO (ol.take j) n) ∧ K' = [(11, .int .i64 j), (5, .int .i64 (c : Int))] ∧ D' = [] ∧ M' = [] ∧ μ = on - j) (.cons (t := 1) rfl <| .cons (t := 9) rfl <| .cons (t := 10) rfl <| SubK.nil _) (⟨0, 0, ⟨by omega, rfl⟩, rfl, rfl, rfl, rfl⟩) (.cons (t := 11) rfl <| .cons (t := 5) rfl <| SubK.nil _) qD qS ?_
  rintro K1 D1 M1 m1 ⟨j, c, ⟨hj, hc⟩, rfl, rfl, rfl, rfl⟩
  refine T.norm3 qA qA qA ?_
  refine T.seq ?_
  refine T.region ?_
  refine L.ltI rfl rfl rfl ?_
  refine L.nil ?_
  refine T.thenN ?_
  refine T.seq ?_
  refine T.cond rfl (fun h12 => ?_) (fun h12 => ?_)
  · try simp only [decide_eq_true_eq, decide_eq_false_iff_not, Bool.not_eq_true', Bool.not_eq_false', Bool.and_eq_true, Bool.or_eq_true] at h12
    refine T.skip ?_
    refine T.thenN ?_
    refine T.seq ?_
    refine T.block ?_
    refine T.seq ?_
    obtain ⟨x, hgj⟩ := ex_get (l := ol) (k := j) (by omega)
    have hgo : (ol.map oR)[j]? = some (oR x) := map_get hgj
    have hcs := @cntO_s ol j x n hgj
    refine T.region ?_
    refine L.idx (i := j) rfl Tryz.underlying30 sz47 rfl rfl qM (by first | rfl | omega | (simp; done)) qG (fun b13 o13 => ?_)
    refine L.loadA rfl ag47 rfl qN ?_
    refine L.alloc rfl ze47 (fun b7 => ?_)
    refine L.storeA ag47 rfl rfl qL qO qU qW ?_
    refine L.nil ?_
    refine T.thenN ?_
    refine T.seq ?_
    refine T.region ?_
    first | refine L.field0 rfl fo47_1 rfl ?_ | refine L.field rfl fo47_1 rfl ?_
    refine L.load rfl sc3 rfl qC ?_
    refine L.move rfl rfl ?_
    refine L.eqI rfl rfl rfl ?_
    refine L.nil ?_
    refine T.thenN ?_
    refine T.cond rfl (fun h18 => ?_) (fun h18 => ?_)
    · try simp only [decide_eq_true_eq, decide_eq_false_iff_not, Bool.not_eq_true', Bool.not_eq_false', Bool.and_eq_true, Bool.or_eq_true] at h18
      rw [if_pos h18] at hcs
      refine T.region ?_
      refine L.move rfl rfl ?_
      refine L.addN rfl rfl rfl (by omega) ?_
      refine L.assign rfl rfl ?_
      refine L.nil ?_
      refine T.blkN ?_
      refine T.thenN ?_
      refine T.region ?_
      refine L.addN rfl rfl rfl (by omega) ?_
      refine L.move rfl rfl ?_
      refine L.nil ?_
      refine T.thenN ?_
      exact T.back ⟨j + 1, c + 1, ⟨by omega, by omega⟩, rfl, rfl, rfl, rfl⟩ qI (.cons (t := 11) rfl <| .cons (t := 5) rfl <| SubK.nil _) (.cons (t := 1) rfl <| .cons (t := 9) rfl <| .cons (t := 10) rfl <| SubK.nil _) qD qD qF
    · try simp only [decide_eq_true_eq, decide_eq_false_iff_not, Bool.not_eq_true', Bool.not_eq_false', Bool.and_eq_true, Bool.or_eq_true] at h18
      rw [if_neg h18] at hcs
      refine T.skip ?_
      refine T.blkN ?_
      refine T.thenN ?_
      refine T.region ?_
      refine L.addN rfl rfl rfl (by omega) ?_
      refine L.move rfl rfl ?_
      refine L.nil ?_
      refine T.thenN ?_
      exact T.back ⟨j + 1, c, ⟨by omega, by omega⟩, rfl, rfl, rfl, rfl⟩ qI (.cons (t := 11) rfl <| .cons (t := 5) rfl <| SubK.nil _) (.cons (t := 1) rfl <| .cons (t := 9) rfl <| .cons (t := 10) rfl <| SubK.nil _) qD qD qF
  · try simp only [decide_eq_true_eq, decide_eq_false_iff_not, Bool.not_eq_true', Bool.not_eq_false', Bool.and_eq_true, Bool.or_eq_true] at h12
    obtain rfl : on = j := by omega
    rw [List.take_of_length_le (by omega)] at hc
    refine T.exit ?_
    refine T.thenX ?_
    refine T.thenX ?_
    refine T.blkX ?_
    refine T.thenN ?_
    refine T.seq ?_
    refine T.region ?_
    refine L.move rfl rfl ?_
    refine L.assign rfl rfl ?_
    refine L.nil ?_
    refine T.thenN ?_
    refine T.ret ?_
    exact T.ret1 rfl rfl ⟨by rw [hc], rfl, rfl⟩ qD qF
set_option maxHeartbeats 400000 in
theorem rlacks_spec {o sq : Int} {oa la ma : Option Addr} {on oc ln lc mn mc : Nat} {ll : List (LK × Int)} {n : Int} {id : ID32} (hln : ln ≤ 1000000) : Spec Tryz.prog 64 [.agg (xC o sq oa on oc la ln lc ma mn mc).toArray, .int .i64 n, S id.1] [rsl 3 la ln lc (ll.map kR)] [] (fun v D' M' => v = .bool (look ll (n, id)).isSome ∧ D' = [] ∧ M' = []) := by
  refine Spec.intro (n := 27) Tryz.func64 rfl rfl (by decide) (Nat.le_of_ble_eq_true rfl) rfl (fun _ => qA) (fun _ => qA) ?_
  intro σ D M
  refine T.rslLen2 (rows := ll.map kR) qM (fun hll hlc => ?_)
  rw [List.length_map] at hll
  refine T.seq ?_
  refine T.region ?_
  refine L.box rfl rfl rfl (fun b3 => ?_)
  refine L.assign rfl rfl ?_
  refine L.nil ?_
  refine T.thenN ?_
  refine T.seq ?_
  refine T.seq ?_
  refine T.region ?_
  first | refine L.field0 rfl fo34_3 rfl ?_ | refine L.field rfl fo34_3 rfl ?_
  refine L.load rfl sc31 rfl qC ?_
  refine L.lenSl rfl Tryz.underlying31 rfl ?_
  refine L.move rfl rfl ?_
  refine L.nil ?_
  refine T.thenN ?_
  refine T.block ?_
  refine T.loop (fun K' D' M' μ => ∃ (j : Nat), (j ≤ ln ∧ look ll (n, id) = look (ll.drop j) (n, id)) ∧ K' = [(12, .int .i64 j)] ∧ D' = [] ∧ M' = [] ∧ μ = ln - j) (.cons (t := 1) rfl <| .cons (t := 2) rfl <| .cons (t := 10) rfl <| .cons (t := 11) rfl <| SubK.nil _) (⟨0, ⟨by omega, rfl⟩, rfl, rfl, rfl, rfl⟩) (.cons (t := 12) rfl <| SubK.nil _) qD qS ?_
  rintro K1 D1 M1 m1 ⟨j, ⟨hj, hlk⟩, rfl, rfl, rfl, rfl⟩
  refine T.norm3 qA qA qA ?_
  refine T.seq ?_
  refine T.region ?_
  refine L.ltI rfl rfl rfl ?_
  refine L.nil ?_
  refine T.thenN ?_
  refine T.seq ?_
  refine T.cond rfl (fun h13 => ?_) (fun h13 => ?_)
  · try simp only [decide_eq_true_eq, decide_eq_false_iff_not, Bool.not_eq_true', Bool.not_eq_false', Bool.and_eq_true, Bool.or_eq_true] at h13
    refine T.skip ?_
    refine T.thenN ?_
    refine T.seq ?_
    refine T.block ?_
    refine T.seq ?_
    obtain ⟨e, hgj⟩ := ex_get (l := ll) (k := j) (by omega)
    have hgo : (ll.map kR)[j]? = some (kR e) := map_get hgj
    refine T.region ?_
    refine L.idx (i := j) rfl Tryz.underlying31 sz141 rfl rfl qM (by first | rfl | omega | (simp; done)) qG (fun b14 o14 => ?_)
    refine L.loadA rfl ag141 rfl qN ?_
    refine L.alloc rfl ze141 (fun b8 => ?_)
    refine L.storeA ag141 rfl rfl qL qO qU qW ?_
    refine L.nil ?_
    refine T.thenN ?_
    refine T.seq ?_
    rcases Decidable.em (e.1.1 = n) with h1 | h1
    · skip
      refine T.region ?_
      first | refine L.field0 rfl fo141_0 rfl ?_ | refine L.field rfl fo141_0 rfl ?_
      refine L.load rfl sc3 rfl qC ?_
      refine L.move rfl rfl ?_
      refine L.eqI rfl rfl rfl ?_
      refine L.move rfl rfl ?_
      refine L.known (t := 20) rfl (show _ = Value.bool true from congrArg Value.bool (decide_eq_true h1)) ?_
      refine L.guardT (dj := 20) rfl rfl rfl ?_
      first | refine L.field0 rfl fo141_1 rfl ?_ | refine L.field rfl fo141_1 rfl ?_
      refine L.guardT (dj := 20) rfl rfl rfl ?_
      refine L.load rfl sc9 rfl qC ?_
      refine L.guardT (dj := 20) rfl rfl rfl ?_
      refine L.move rfl rfl ?_
      refine L.guardT (dj := 20) rfl rfl rfl ?_
      refine L.eqS rfl rfl rfl ?_
      refine L.pickT rfl rfl rfl ?_
      refine L.nil ?_
      refine T.thenN ?_
      refine T.cond rfl (fun h25 => ?_) (fun h25 => ?_)
      · try simp only [decide_eq_true_eq, decide_eq_false_iff_not, Bool.not_eq_true', Bool.not_eq_false', Bool.and_eq_true, Bool.or_eq_true] at h25
        rw [drop_hit hgj (k_eq h1 h25)] at hlk
        refine T.seq ?_
        refine T.region ?_
        refine L.assign rfl rfl ?_
        refine L.nil ?_
        refine T.thenN ?_
        refine T.ret ?_
        refine T.blkR ?_
        refine T.thenR ?_
        refine T.thenR ?_
        refine T.blkR ?_
        refine T.thenR ?_
        exact T.ret1 rfl rfl ⟨congrArg Value.bool (by rw [hlk]; rfl), rfl, rfl⟩ qD qF
      · try simp only [decide_eq_true_eq, decide_eq_false_iff_not, Bool.not_eq_true', Bool.not_eq_false', Bool.and_eq_true, Bool.or_eq_true] at h25
        have hnk : ¬ e.1 = (n, id) := fun h => h25 (by rw [h])
        refine T.skip ?_
        refine T.blkN ?_
        refine T.thenN ?_
        refine T.region ?_
        refine L.addN rfl rfl rfl (by omega) ?_
        refine L.move rfl rfl ?_
        refine L.nil ?_
        refine T.thenN ?_
        exact T.back ⟨j + 1, ⟨by omega, by rw [hlk]; exact drop_step hgj hnk⟩, rfl, rfl, rfl, rfl⟩ qI (.cons (t := 12) rfl <| SubK.nil _) (.cons (t := 1) rfl <| .cons (t := 2) rfl <| .cons (t := 10) rfl <| .cons (t := 11) rfl <| SubK.nil _) qD qD qF
    · skip
      have hnk : ¬ e.1 = (n, id) := fun h => h1 (by rw [h])
      refine T.region ?_
      first | refine L.field0 rfl fo141_0 rfl ?_ | refine L.field rfl fo141_0 rfl ?_
      refine L.load rfl sc3 rfl qC ?_
      refine L.move rfl rfl ?_
      refine L.eqI rfl rfl rfl ?_
      refine L.move rfl rfl ?_
      refine L.known (t := 20) rfl (show _ = Value.bool false from congrArg Value.bool (decide_eq_false h1)) ?_
      refine L.guardF (dj := 20) (c := false) rfl rfl rfl rfl rfl (by decide) ?_
      refine L.guardF (dj := 20) (c := false) rfl rfl rfl rfl rfl (by decide) ?_
      refine L.guardF (dj := 20) (c := false) rfl rfl rfl rfl rfl (by decide) ?_
      refine L.guardF (dj := 20) (c := false) rfl rfl rfl rfl rfl (by decide) ?_
      refine L.pickF rfl rfl rfl ?_
      refine L.nil ?_
      refine T.thenN ?_
      refine T.condF rfl rfl ?_
      refine T.skip ?_
      refine T.blkN ?_
      refine T.thenN ?_
      refine T.region ?_
      refine L.addN rfl rfl rfl (by omega) ?_
      refine L.move rfl rfl ?_
      refine L.nil ?_
      refine T.thenN ?_
      exact T.back ⟨j + 1, ⟨by omega, by rw [hlk]; exact drop_step hgj hnk⟩, rfl, rfl, rfl, rfl⟩ qI (.cons (t := 12) rfl <| SubK.nil _) (.cons (t := 1) rfl <| .cons (t := 2) rfl <| .cons (t := 10) rfl <| .cons (t := 11) rfl <| SubK.nil _) qD qD qF
  · try simp only [decide_eq_true_eq, decide_eq_false_iff_not, Bool.not_eq_true', Bool.not_eq_false', Bool.and_eq_true, Bool.or_eq_true] at h13
    obtain rfl : ln = j := by omega
    rw [List.drop_eq_nil_of_le (by omega)] at hlk
    refine T.exit ?_
    refine T.thenX ?_
    refine T.thenX ?_
    refine T.blkX ?_
    refine T.thenN ?_
    refine T.seq ?_
    refine T.region ?_
    refine L.assign rfl rfl ?_
    refine L.nil ?_
    refine T.thenN ?_
    refine T.ret ?_
    exact T.ret1 rfl rfl ⟨congrArg Value.bool (by rw [hlk]; rfl), rfl, rfl⟩ qD qF
end Cv
