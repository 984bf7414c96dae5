/-
  The walks: the law of bounds.
-/
import Derived.Test.YtcfhpmijippbmaaGreatSg25
import Derived.Test.YtcfhpmijippbmaaGreatCvLd
import Derived.Test.YtcfhpmijippbmaaGreatProg
import Derived.KernelRfl
set_option linter.unusedVariables false
set_option linter.unusedSimpArgs false
set_option linter.unusedSectionVars false
set_option maxRecDepth 10000
namespace Cv
open Go Go.Proofs
/-! ### never more orders than may be: plain laws -/
theorem askR_sq {F : Int → Mind} {hs : List Int} {now o : Int} {lk : List (LK × Int)} {ws : List Wnt} {ol out ol' out' : List Ord} {sq sq' : Int} (h : AskR F hs now o lk ws ol sq out ol' sq' out') : sq ≤ sq' ∧ ∀ x ∈ out', x ∈ out ∨ x.2.2.1 ≤ sq' := by
  induction h with
  | nil => exact ⟨Int.le_refl _, fun x hx => .inl hx⟩
  | stop h => exact ⟨Int.le_refl _, fun x hx => .inl hx⟩
  | skip h1 h2 _ ih => exact ih
  | ask h1 h2 h3 _ ih =>
    obtain ⟨i1, i2⟩ := ih
    refine ⟨by omega, fun x hx => ?_⟩
    rcases i2 x hx with q | q
    · rcases List.mem_append.1 q with r | r
      · exact .inl r
      · simp at r; subst r; right; exact i1
    · exact .inr q
def cntL (xs : List Ord) : List (Int × Int) := xs.foldl (fun l x => Cv.put l x.2.1 ((look l x.2.1).getD 0 + 1)) []
theorem cnt_fold {n : Int} : ∀ {xs : List Ord} {l : List (Int × Int)}, (look (xs.foldl (fun l x => Cv.put l x.2.1 ((look l x.2.1).getD 0 + 1)) l) n).getD 0 = (look l n).getD 0 + (cntO xs n : Int)
  | [], l => by simp [cntO]
  | x :: xs, l => by
    rw [List.foldl_cons, cnt_fold, look_put]
    unfold cntO
    by_cases e : x.2.1 = n
    · subst e; simp; omega
    · rw [if_neg (Ne.symm e)]; simp [e]
theorem cntL_get {xs : List Ord} {n : Int} : (look (cntL xs) n).getD 0 = (cntO xs n : Int) := by
  unfold cntL; rw [cnt_fold]; simp [look]
theorem cntL_s {xs : List Ord} {k : Nat} {x : Ord} (h : xs[k]? = some x) : cntL (xs.take (k + 1)) = Cv.put (cntL (xs.take k)) x.2.1 ((look (cntL (xs.take k)) x.2.1).getD 0 + 1) := by
  unfold cntL; rw [List.take_add_one, h, List.foldl_append]; rfl
theorem cntL_in {xs : List Ord} {k v : Int} (hn : ((cntL xs).map Prod.fst).Nodup) (h : (k, v) ∈ cntL xs) : v = (cntO xs k : Int) := by
  have := look_of_mem hn h
  rw [← cntL_get, this]; rfl
def seenL (xs : List Ord) : List (ID32 × Int) := xs.map fun x => (x.1.2.1, 1)
theorem seen_none {xs : List Ord} {k : Nat} {x : Ord} (hn : (xs.map fun x => x.1.2.1.1).Nodup) (h : xs[k]? = some x) : look (seenL (xs.take k)) x.1.2.1 = none := by
  refine Option.eq_none_iff_forall_ne_some.2 fun v hv => ?_
  obtain ⟨y, hy, e⟩ := List.mem_map.1 (mem_of_look hv)
  obtain ⟨j, hj⟩ := List.getElem?_of_mem hy
  have hjk : j < k := by
    have := (List.getElem?_eq_some_iff.1 hj).1
    rw [List.length_take] at this; omega
  rw [List.getElem?_take_of_lt hjk] at hj
  have e1 : y.1.2.1 = x.1.2.1 := (Prod.ext_iff.1 e).1
  have := nd_at (f := fun x : Ord => x.1.2.1.1) hn hj h (by show y.1.2.1.1 = x.1.2.1.1; rw [e1])
  omega
theorem seen_s {xs : List Ord} {k : Nat} {x : Ord} (hn : (xs.map fun x => x.1.2.1.1).Nodup) (h : xs[k]? = some x) : Cv.put (seenL (xs.take k)) x.1.2.1 1 = seenL (xs.take (k + 1)) := by
  rw [put_none (seen_none hn h)]
  unfold seenL
  rw [List.take_add_one, h, List.map_append]; rfl
theorem put_put {κ ν : Type} [DecidableEq κ] {l : List (κ × ν)} {k : κ} {u v : ν} : Cv.put (Cv.put l k u) k v = Cv.put l k v := by
  induction l with
  | nil => simp [Cv.put]
  | cons p l ih =>
    obtain ⟨a, b⟩ := p
    by_cases e : a = k
    · simp [Cv.put, e]
    · simp [Cv.put, e, ih]
theorem fo77_7 : Fo Tryz.prog 77 7 38 := fun a w => by kernel_rfl
theorem fo77_8 : Fo Tryz.prog 77 8 39 := fun a w => by kernel_rfl
set_option maxHeartbeats 400000 in
theorem addr_spec {n : Int} (h0 : 0 ≤ n) (h9 : n < 64) : Spec Tryz.prog 41 [.int .i64 n] [] [] (fun v D' M' => v = .bool true ∧ D' = [] ∧ M' = []) := by
  refine Spec.intro (n := 9) Tryz.func41 rfl rfl (by decide) (Nat.le_of_ble_eq_true rfl) rfl (fun _ => qA) (fun _ => qA) ?_
  intro σ D M
  refine T.seq ?_
  refine T.region ?_
  refine L.assign rfl rfl ?_
  refine L.nil ?_
  refine T.thenN ?_
  refine T.seq ?_
  refine T.region ?_
  refine L.move rfl rfl ?_
  refine L.geI rfl rfl rfl ?_
  refine L.move rfl rfl ?_
  refine L.known (t := 5) rfl (show _ = Value.bool true from congrArg Value.bool (decide_eq_true (by omega))) ?_
  refine L.guardT (dj := 5) rfl rfl rfl ?_
  refine L.move rfl rfl ?_
  refine L.guardT (dj := 5) rfl rfl rfl ?_
  refine L.ltI rfl rfl rfl ?_
  refine L.pickT rfl rfl rfl ?_
  refine L.assign rfl rfl ?_
  refine L.nil ?_
  refine T.thenN ?_
  refine T.ret ?_
  exact T.ret1 rfl rfl ⟨congrArg Value.bool (decide_eq_true h9), rfl, rfl⟩ qD qF
set_option maxHeartbeats 400000 in
theorem has7_spec   : Spec Tryz.prog 40 [.int .i64 7] [] [] (fun v D' M' => v = S [110, 119] ∧ D' = [] ∧ M' = []) := by
  refine Spec.intro (n := 19) Tryz.func40 rfl rfl (by decide) (Nat.le_of_ble_eq_true rfl) rfl (fun _ => qA) (fun _ => qA) ?_
  intro σ D M
  refine T.seq ?_
  refine T.region ?_
  refine L.assign rfl rfl ?_
  refine L.nil ?_
  refine T.thenN ?_
  refine T.seq ?_
  refine T.seq ?_
  refine T.region ?_
  refine L.move rfl rfl ?_
  refine L.nil ?_
  refine T.thenN ?_
  refine T.block ?_
  refine T.seq ?_
  refine T.seq ?_
  refine T.region ?_
  refine L.eqI rfl rfl rfl ?_
  refine L.assign rfl rfl ?_
  refine L.nil ?_
  refine T.thenN ?_
  refine T.condF rfl rfl ?_
  refine T.region ?_
  refine L.eqI rfl rfl rfl ?_
  refine L.assign rfl rfl ?_
  refine L.nil ?_
  refine T.thenN ?_
  refine T.condF rfl rfl ?_
  refine T.seq ?_
  refine T.region ?_
  refine L.eqI rfl rfl rfl ?_
  refine L.assign rfl rfl ?_
  refine L.nil ?_
  refine T.thenN ?_
  refine T.condF rfl rfl ?_
  refine T.seq ?_
  refine T.seq ?_
  refine T.region ?_
  refine L.eqI rfl rfl rfl ?_
  refine L.assign rfl rfl ?_
  refine L.nil ?_
  refine T.thenN ?_
  refine T.condT rfl rfl ?_
  refine T.skip ?_
  refine T.thenN ?_
  refine T.condT rfl rfl ?_
  refine T.seq ?_
  refine T.region ?_
  refine L.assign rfl rfl ?_
  refine L.nil ?_
  refine T.thenN ?_
  refine T.ret ?_
  refine T.blkR ?_
  refine T.thenR ?_
  exact T.ret1 rfl rfl ⟨rfl, rfl, rfl⟩ qD qF
set_option maxHeartbeats 400000 in
theorem part7_spec {c : UInt8}  : Spec Tryz.prog 42 [.int .i64 7, Y c] [] [] (fun v D' M' => v = .bool (decide (0 ≤ ibF [110, 119] c)) ∧ D' = [] ∧ M' = []) := by
  refine Spec.intro (n := 10) Tryz.func42 rfl rfl (by decide) (Nat.le_of_ble_eq_true rfl) rfl (fun _ => qA) (fun _ => qA) ?_
  intro σ D M
  refine T.seq ?_
  refine T.region ?_
  refine L.assign rfl rfl ?_
  refine L.nil ?_
  refine T.thenN ?_
  refine T.seq ?_
  refine T.region ?_
  refine L.move rfl rfl ?_
  refine L.callF rfl (evs.cons rfl <| evs.nil) qD qS (has7_spec) (by rintro u D1 M1 ⟨rfl, rfl, rfl⟩; exact ⟨rfl, _, qA, qF⟩) ?_
  refine L.move rfl rfl ?_
  refine L.callF rfl (evs.cons rfl <| evs.cons rfl <| evs.nil) qD qS (sib_spec (l := [110, 119]) (c := c)) (by rintro u D1 M1 ⟨rfl, rfl, rfl⟩; exact ⟨rfl, _, qA, qF⟩) ?_
  refine L.geI rfl rfl rfl ?_
  refine L.assign rfl rfl ?_
  refine L.nil ?_
  refine T.thenN ?_
  refine T.ret ?_
  exact T.ret1 rfl rfl ⟨rfl, rfl, rfl⟩ qD qF
set_option maxHeartbeats 400000 in
theorem chk7_spec {x : Ord} (ht : 0 ≤ x.2.1 ∧ x.2.1 ≤ 15) (hs : 0 ≤ x.2.2.1 ∧ x.2.2.1 ≤ 4294967296) (hw : x.1.1 = 1) : Spec Tryz.prog 20 [.agg (lR 1 x).toArray] [] [] (fun v D' M' => v = .int .i64 0 ∧ D' = [] ∧ M' = []) := by
  refine Spec.intro (n := 120) Tryz.func20 rfl rfl (by decide) (Nat.le_of_ble_eq_true rfl) rfl (fun _ => qA) (fun _ => qA) ?_
  intro σ D M
  have hx32 := x.1.2.1.2
  have hll := @lR_len 1 x
  refine T.seq ?_
  refine T.region ?_
  refine L.box rfl rfl rfl (fun b1 => ?_)
  refine L.assign rfl rfl ?_
  refine L.nil ?_
  refine T.thenN ?_
  refine T.seq ?_
  refine T.block ?_
  refine T.seq ?_
  refine T.region ?_
  first | refine L.field0 rfl fo77_0 rfl ?_ | refine L.field rfl fo77_0 rfl ?_
  refine L.load rfl sc3 rfl qC ?_
  refine L.callF rfl (evs.cons rfl <| evs.nil) qD qS (has7_spec) (by rintro u D1 M1 ⟨rfl, rfl, rfl⟩; exact ⟨rfl, _, qA, qF⟩) ?_
  refine L.eqS rfl rfl rfl ?_
  refine L.assign rfl rfl ?_
  refine L.nil ?_
  refine T.thenN ?_
  refine T.condF rfl (by simp) ?_
  refine T.seq ?_
  refine T.region ?_
  first | refine L.field0 rfl fo77_1 rfl ?_ | refine L.field rfl fo77_1 rfl ?_
  refine L.load rfl sc3 rfl qC ?_
  refine L.callF rfl (evs.cons rfl <| evs.nil) qD qS (addr_spec (n := 1) (by decide) (by decide)) (by rintro u D1 M1 ⟨rfl, rfl, rfl⟩; exact ⟨rfl, _, qA, qF⟩) ?_
  refine L.notB rfl rfl ?_
  refine L.move rfl rfl ?_
  refine L.known (t := 15) rfl (show _ = Value.bool false from rfl) ?_
  refine L.guardT (dj := 15) rfl rfl rfl ?_
  first | refine L.field0 rfl fo77_2 rfl ?_ | refine L.field rfl fo77_2 rfl ?_
  refine L.guardT (dj := 15) rfl rfl rfl ?_
  refine L.load rfl sc3 rfl qC ?_
  refine L.guardT (dj := 15) rfl rfl rfl ?_
  refine L.callF rfl (evs.cons rfl <| evs.nil) qD qS (addr_spec (n := x.2.1) ht.1 (by omega)) (by rintro u D1 M1 ⟨rfl, rfl, rfl⟩; exact ⟨rfl, _, qA, qF⟩) ?_
  refine L.guardT (dj := 15) rfl rfl rfl ?_
  refine L.notB rfl rfl ?_
  refine L.pickF rfl rfl rfl ?_
  refine L.move rfl rfl ?_
  refine L.known (t := 21) rfl (show _ = Value.bool false from rfl) ?_
  refine L.guardT (dj := 21) rfl rfl rfl ?_
  first | refine L.field0 rfl fo77_3 rfl ?_ | refine L.field rfl fo77_3 rfl ?_
  refine L.guardT (dj := 21) rfl rfl rfl ?_
  refine L.load rfl sc3 rfl qC ?_
  refine L.guardT (dj := 21) rfl rfl rfl ?_
  refine L.ltI rfl rfl rfl ?_
  refine L.pickF rfl rfl rfl ?_
  refine L.move rfl rfl ?_
  refine L.known (t := 26) rfl (show _ = Value.bool false from congrArg Value.bool (decide_eq_false (by omega))) ?_
  refine L.guardT (dj := 26) rfl rfl rfl ?_
  first | refine L.field0 rfl fo77_3 rfl ?_ | refine L.field rfl fo77_3 rfl ?_
  refine L.guardT (dj := 26) rfl rfl rfl ?_
  refine L.load rfl sc3 rfl qC ?_
  refine L.guardT (dj := 26) rfl rfl rfl ?_
  refine L.gtI rfl rfl rfl ?_
  refine L.pickF rfl rfl rfl ?_
  refine L.assign rfl rfl ?_
  refine L.nil ?_
  refine T.thenN ?_
  refine T.condF rfl (decide_eq_false (by omega)) ?_
  refine T.seq ?_
  refine T.region ?_
  first | refine L.field0 rfl fo77_7 rfl ?_ | refine L.field rfl fo77_7 rfl ?_
  refine L.load rfl sc39 rfl qC ?_
  refine L.lenSl rfl Tryz.underlying39 rfl ?_
  refine L.gtI rfl rfl rfl ?_
  refine L.move rfl rfl ?_
  refine L.known (t := 36) rfl (show _ = Value.bool false from rfl) ?_
  refine L.guardT (dj := 36) rfl rfl rfl ?_
  first | refine L.field0 rfl fo77_8 rfl ?_ | refine L.field rfl fo77_8 rfl ?_
  refine L.guardT (dj := 36) rfl rfl rfl ?_
  refine L.load rfl sc39 rfl qC ?_
  refine L.guardT (dj := 36) rfl rfl rfl ?_
  refine L.lenSl rfl Tryz.underlying39 rfl ?_
  refine L.guardT (dj := 36) rfl rfl rfl ?_
  refine L.gtI rfl rfl rfl ?_
  refine L.pickF rfl rfl rfl ?_
  refine L.move rfl rfl ?_
  refine L.known (t := 42) rfl (show _ = Value.bool false from rfl) ?_
  refine L.guardT (dj := 42) rfl rfl rfl ?_
  first | refine L.field0 rfl fo77_6 rfl ?_ | refine L.field rfl fo77_6 rfl ?_
  refine L.guardT (dj := 42) rfl rfl rfl ?_
  refine L.load rfl sc9 rfl qC ?_
  refine L.guardT (dj := 42) rfl rfl rfl ?_
  refine L.lenStr rfl Tryz.underlying9 rfl ?_
  refine L.guardT (dj := 42) rfl rfl rfl ?_
  refine L.gtI rfl rfl rfl ?_
  refine L.pickF rfl rfl rfl ?_
  refine L.assign rfl rfl ?_
  refine L.nil ?_
  refine T.thenN ?_
  refine T.condF rfl (by first | rfl | decide | simp | (simp; omega)) ?_
  refine T.seq ?_
  refine T.seq ?_
  refine T.region ?_
  first | refine L.field0 rfl fo77_0 rfl ?_ | refine L.field rfl fo77_0 rfl ?_
  refine L.load rfl sc3 rfl qC ?_
  refine L.callF rfl (evs.cons rfl <| evs.cons rfl <| evs.nil) qD qS (part7_spec (c := 110)) (by rintro u D1 M1 ⟨rfl, rfl, rfl⟩; exact ⟨rfl, _, qA, qF⟩) ?_
  refine L.notB rfl rfl ?_
  refine L.move rfl rfl ?_
  refine L.known (t := 53) rfl (show _ = Value.bool false from congrArg Value.bool (by decide)) ?_
  refine L.guardF (dj := 53) (c := false) rfl rfl rfl rfl rfl (by decide) ?_
  refine L.guardF (dj := 53) (c := false) rfl rfl rfl rfl rfl (by decide) ?_
  refine L.guardF (dj := 53) (c := false) rfl rfl rfl rfl rfl (by decide) ?_
  refine L.guardF (dj := 53) (c := false) rfl rfl rfl rfl rfl (by decide) ?_
  refine L.pickF rfl rfl rfl ?_
  refine L.assign rfl rfl ?_
  refine L.nil ?_
  refine T.thenN ?_
  refine T.condF rfl rfl ?_
  refine T.seq ?_
  refine T.region ?_
  first | refine L.field0 rfl fo77_0 rfl ?_ | refine L.field rfl fo77_0 rfl ?_
  refine L.load rfl sc3 rfl qC ?_
  refine L.callF rfl (evs.cons rfl <| evs.cons rfl <| evs.nil) qD qS (part7_spec (c := 108)) (by rintro u D1 M1 ⟨rfl, rfl, rfl⟩; exact ⟨rfl, _, qA, qF⟩) ?_
  refine L.notB rfl rfl ?_
  refine L.move rfl rfl ?_
  refine L.known (t := 63) rfl (show _ = Value.bool true from congrArg Value.bool (by decide)) ?_
  refine L.guardT (dj := 63) rfl rfl rfl ?_
  first | refine L.field0 rfl fo77_7 rfl ?_ | refine L.field rfl fo77_7 rfl ?_
  refine L.guardT (dj := 63) rfl rfl rfl ?_
  refine L.load rfl sc39 rfl qC ?_
  refine L.guardT (dj := 63) rfl rfl rfl ?_
  refine L.lenSl rfl Tryz.underlying39 rfl ?_
  refine L.guardT (dj := 63) rfl rfl rfl ?_
  first | refine L.field0 rfl fo77_8 rfl ?_ | refine L.field rfl fo77_8 rfl ?_
  refine L.guardT (dj := 63) rfl rfl rfl ?_
  refine L.load rfl sc39 rfl qC ?_
  refine L.guardT (dj := 63) rfl rfl rfl ?_
  refine L.lenSl rfl Tryz.underlying39 rfl ?_
  refine L.guardT (dj := 63) rfl rfl rfl ?_
  refine L.addN rfl rfl rfl (by omega) ?_
  refine L.guardT (dj := 63) rfl rfl rfl ?_
  refine L.gtI rfl rfl rfl ?_
  refine L.pickT rfl rfl rfl ?_
  refine L.assign rfl rfl ?_
  refine L.nil ?_
  refine T.thenN ?_
  refine T.condF rfl (by first | rfl | decide | simp | (simp; omega)) ?_
  refine T.region ?_
  first | refine L.field0 rfl fo77_0 rfl ?_ | refine L.field rfl fo77_0 rfl ?_
  refine L.load rfl sc3 rfl qC ?_
  refine L.callF rfl (evs.cons rfl <| evs.cons rfl <| evs.nil) qD qS (part7_spec (c := 116)) (by rintro u D1 M1 ⟨rfl, rfl, rfl⟩; exact ⟨rfl, _, qA, qF⟩) ?_
  refine L.notB rfl rfl ?_
  refine L.move rfl rfl ?_
  refine L.known (t := 77) rfl (show _ = Value.bool true from congrArg Value.bool (by decide)) ?_
  refine L.guardT (dj := 77) rfl rfl rfl ?_
  first | refine L.field0 rfl fo77_6 rfl ?_ | refine L.field rfl fo77_6 rfl ?_
  refine L.guardT (dj := 77) rfl rfl rfl ?_
  refine L.load rfl sc9 rfl qC ?_
  refine L.guardT (dj := 77) rfl rfl rfl ?_
  refine L.neS rfl rfl rfl ?_
  refine L.pickT rfl rfl rfl ?_
  refine L.assign rfl rfl ?_
  refine L.nil ?_
  refine T.thenN ?_
  refine T.condF rfl (by first | rfl | decide | simp | (simp; omega)) ?_
  refine T.seq ?_
  refine T.seq ?_
  refine T.regionQ (by kernel_rfl) (by kernel_rfl) ?_
  first | refine L.field0 rfl fo77_0 rfl ?_ | refine L.field rfl fo77_0 rfl ?_
  refine L.load rfl sc3 rfl qC ?_
  refine L.callF rfl (evs.cons rfl <| evs.cons rfl <| evs.nil) qD qS (part7_spec (c := 119)) (by rintro u D1 M1 ⟨rfl, rfl, rfl⟩; exact ⟨rfl, _, qA, qF⟩) ?_
  first | refine L.field0 rfl fo77_5 rfl ?_ | refine L.field rfl fo77_5 rfl ?_
  refine L.load rfl sc3 rfl qC ?_
  refine L.geI rfl rfl rfl ?_
  refine L.move rfl rfl ?_
  refine L.known (t := 89) rfl (show _ = Value.bool true from congrArg Value.bool (decide_eq_true (by omega))) ?_
  refine L.guardT (dj := 89) rfl rfl rfl ?_
  first | refine L.field0 rfl fo77_5 rfl ?_ | refine L.field rfl fo77_5 rfl ?_
  refine L.guardT (dj := 89) rfl rfl rfl ?_
  refine L.load rfl sc3 rfl qC ?_
  refine L.guardT (dj := 89) rfl rfl rfl ?_
  refine L.leI rfl rfl rfl ?_
  refine L.pickT rfl rfl rfl ?_
  refine L.neqB Tryz.underlying4 rfl rfl rfl ?_
  refine L.assign rfl rfl ?_
  refine L.nilQ ?_
  refine T.thenN ?_
  refine T.condF rfl (by rw [decide_eq_true (show x.1.1 ≤ 3 by omega)]; decide) ?_
  refine T.region ?_
  first | refine L.field0 rfl fo77_0 rfl ?_ | refine L.field rfl fo77_0 rfl ?_
  refine L.load rfl sc3 rfl qC ?_
  refine L.callF rfl (evs.cons rfl <| evs.cons rfl <| evs.nil) qD qS (part7_spec (c := 119)) (by rintro u D1 M1 ⟨rfl, rfl, rfl⟩; exact ⟨rfl, _, qA, qF⟩) ?_
  refine L.notB rfl rfl ?_
  refine L.move rfl rfl ?_
  refine L.known (t := 99) rfl (show _ = Value.bool false from congrArg Value.bool (by decide)) ?_
  refine L.guardF (dj := 99) (c := false) rfl rfl rfl rfl rfl (by decide) ?_
  refine L.guardF (dj := 99) (c := false) rfl rfl rfl rfl rfl (by decide) ?_
  refine L.guardF (dj := 99) (c := false) rfl rfl rfl rfl rfl (by decide) ?_
  refine L.pickF rfl rfl rfl ?_
  refine L.assign rfl rfl ?_
  refine L.nil ?_
  refine T.thenN ?_
  refine T.condF rfl rfl ?_
  refine T.skip ?_
  refine T.blkN ?_
  refine T.thenN ?_
  refine T.seq ?_
  refine T.seq ?_
  refine T.freeze (A := cl b1 77 (lR 1 x)) qP ?_
  refine T.newOwn (sz := 1) (e := 3) ?_
  refine T.eqv qP (show own 1 3 none 0 0 [] = own 1 3 none 0 0 (([] : List Int).map e3) from rfl) ?_
  refine T.ownRsl (rows := ([] : List Int).map e3) qP ?_
  refine T.regionA (clsL [2, 1, 1, 2, 1, 1, 2, 1, 1]) (by kernel_rfl) ?_
  refine A.takeP (i := 1) rfl rfl rfl rfl (by kernel_rfl) (by kernel_rfl) (by kernel_rfl) rfl qD ?_
  first | refine L.field0 rfl fo77_7 rfl ?_ | refine L.field rfl fo77_7 rfl ?_
  refine A.took ?_
  refine A.takeP (i := 2) rfl rfl rfl rfl (by kernel_rfl) (by kernel_rfl) (by kernel_rfl) rfl qD ?_
  refine L.load rfl sc39 rfl qC ?_
  refine A.took ?_
  refine A.takeP (i := 4) rfl rfl rfl rfl (by kernel_rfl) (by kernel_rfl) (by kernel_rfl) rfl qD ?_
  first | refine L.field0 rfl fo77_8 rfl ?_ | refine L.field rfl fo77_8 rfl ?_
  refine A.took ?_
  refine A.takeP (i := 5) rfl rfl rfl rfl (by kernel_rfl) (by kernel_rfl) (by kernel_rfl) rfl qD ?_
  refine L.load rfl sc39 rfl qC ?_
  refine A.took ?_
  refine A.takeP (i := 8) rfl rfl rfl rfl (by kernel_rfl) (by kernel_rfl) (by kernel_rfl) rfl qD ?_
  refine L.move rfl rfl ?_
  refine A.took ?_
  refine A.branch (is := [0]) (by kernel_rfl) (by decide) (Each.cons rfl ?_ <| Each.nil) 
  refine L.buildSlice rfl bs39 (by decide) (BP.doneE (out := []) rfl) (fun b104 => ?_)
  refine L.toOwn (len := 0) qP (rows := ([] : List Int).map e3) (sz := 1) (by rfl) rfl (by simp) ?_
  refine A.backT rfl qD ?_
  refine A.branch (is := [3]) (by kernel_rfl) (by decide) (Each.cons rfl ?_ <| Each.nil) 
  refine L.appendR rfl Tryz.underlying39 Tryz.underlying39 el3 rfl rfl qP (rd_D qM) (fun u hu => by simp at hu) qI qI (fun a107 c107 => ?_)
  refine A.backT rfl qD ?_
  refine A.branch (is := [6]) (by kernel_rfl) (by decide) (Each.cons rfl ?_ <| Each.nil) 
  refine L.appendR rfl Tryz.underlying39 Tryz.underlying39 el3 rfl rfl qP (rd_D qM) (fun u hu => by simp at hu) qI qI (fun a110 c110 => ?_)
  refine A.backT rfl qD ?_
  refine A.takeP (i := 7) rfl rfl rfl rfl (by kernel_rfl) (by kernel_rfl) (by kernel_rfl) rfl qD ?_
  refine L.lenSl rfl Tryz.underlying39 rfl ?_
  refine A.took ?_
  refine A.done (by kernel_rfl) ?_
  refine T.thenN ?_
  refine T.block ?_
  refine T.loop (fun K' D' M' μ => K' = [(112, .int .i64 0)] ∧ D' = [] ∧ M' = [] ∧ μ = 0) (.cons (t := 110) rfl <| .cons (t := 111) rfl <| SubK.nil _) (⟨rfl, rfl, rfl, rfl⟩) (.cons (t := 112) rfl <| SubK.nil _) qD qS ?_
  rintro K1 D1 M1 m1 ⟨rfl, rfl, rfl, rfl⟩
  refine T.norm3 qA qA qA ?_
  refine T.seq ?_
  refine T.region ?_
  refine L.ltI rfl rfl rfl ?_
  refine L.nil ?_
  refine T.thenN ?_
  refine T.seq ?_
  refine T.condF rfl (by first | rfl | decide | simp | (simp; omega)) ?_
  refine T.exit ?_
  refine T.thenX ?_
  refine T.thenX ?_
  refine T.blkX ?_
  refine T.thenN ?_
  refine T.seq ?_
  refine T.region ?_
  refine L.assign rfl rfl ?_
  refine L.nil ?_
  refine T.thenN ?_
  refine T.ret ?_
  exact T.ret1 rfl rfl ⟨rfl, rfl, rfl⟩ qD qF
set_option maxHeartbeats 1000000 in
theorem swapbounds_law (za : Option Addr) (zn zc : Nat) (zs : List AR25) (hz : zs.length = zn)  : Spec Tryz.prog 5 [.slice za zn zc] [rsl 6 za zn zc (zs.map aE), aA zs] [] (fun v D' M' => v = .bool true ∧ D' = [] ∧ M' = []) := by
  refine Spec.intro (n := 166) Tryz.func5 rfl rfl (by decide) (Nat.le_of_ble_eq_true rfl) rfl (fun _ => qA) (fun _ => qA) ?_
  intro σ D M
  skip
  refine T.seq ?_
  refine T.region ?_
  refine L.assign rfl rfl ?_
  refine L.nil ?_
  refine T.thenN ?_
  refine T.seq ?_
  refine T.seq ?_
  refine T.region ?_
  refine L.call rfl (evs.nil) qD qS (awake25_spec) ?_
  rintro _ _ _ ⟨rfl, rfl, rfl⟩
  refine L.norm qA qA ?_
  refine L.notB rfl rfl ?_
  refine L.nil ?_
  refine T.thenN ?_
  refine T.condF rfl rfl ?_
  refine T.skip ?_
  refine T.thenN ?_
  refine T.seq ?_
  refine T.region ?_
  refine L.build rfl bu29 (BP.one rfl rfl rfl <| BP.one rfl rfl rfl <| BP.doneE (out := []) rfl) ?_
  refine L.call rfl (evs.cons rfl <| evs.cons rfl <| evs.nil) qD qS (wnew_spec) ?_
  rintro _ _ _ ⟨b, bb, q, lm, rfl, rfl, rfl⟩
  refine L.norm qA qA ?_
  refine L.eqv qP (show bookA bb (fun _ => zM) = bookA bb (atM ([] : List (Int × Mind))) from rfl) ?_
  refine L.move rfl rfl ?_
  refine L.extract rfl rfl rfl ?_
  refine L.extract rfl rfl rfl ?_
  refine L.assign rfl rfl ?_
  refine L.assign rfl rfl ?_
  refine L.nil ?_
  refine T.thenN ?_
  refine T.seq ?_
  refine T.region ?_
  refine L.move rfl rfl ?_
  refine L.build rfl bu34 (BP.one rfl rfl rfl <| BP.doneE (out := [Value.int .i64 0, Value.slice none 0 0, Value.slice none 0 0, Value.slice none 0 0]) rfl) ?_
  refine L.build rfl bu36 (BP.one rfl rfl rfl <| BP.agg rfl rfl (by first | with_reducible assumption | (simp; done) | (simp only [List.length_map]; with_reducible assumption) | (simp [*]; done) | rfl) (Nat.le_of_ble_eq_true rfl) qR <| BP.doneE (out := [Value.int .i64 0]) rfl) ?_
  refine L.alloc rfl ze36 (fun b5 => ?_)
  refine L.storeA ag36 rfl rfl qL qO qU qW ?_
  refine L.nil ?_
  refine T.newOwn (sz := 6) (e := 47) ?_
  refine T.eqv qP (show own 6 47 none 0 0 [] = own 6 47 none 0 0 (([] : List Ord).map oR) from rfl) ?_
  refine T.ownRsl (rows := ([] : List Ord).map oR) qP ?_
  refine T.newOwn (sz := 3) (e := 141) ?_
  refine T.eqv qP (show own 3 141 none 0 0 [] = own 3 141 none 0 0 (([] : List (LK × Int)).map kR) from rfl) ?_
  refine T.ownRsl (rows := ([] : List (LK × Int)).map kR) qP ?_
  refine T.newOwn (sz := 8) (e := 108) ?_
  refine T.eqv qP (show own 8 108 none 0 0 [] = own 8 108 none 0 0 (([] : List (Int × Mind)).map rrow) from rfl) ?_
  refine T.ownRsl (rows := ([] : List (Int × Mind)).map rrow) qP ?_
  refine T.thenN ?_
  refine T.seq ?_
  refine T.seq ?_
  refine T.region ?_
  refine L.assign rfl rfl ?_
  refine L.nil ?_
  refine T.thenN ?_
  refine T.block ?_
  refine T.loop (fun K' D' M' μ => ∃ (i : Nat) (s : SS) (sa oa la ma : Option Addr) (sn sc on oc ln lc mn mc : Nat), ((i ≤ zn ∧ i ≤ 60) ∧ SInv s i) ∧ K' = [(6, .int .i64 i)] ∧ D' = [rsl 6 oa on oc (s.ol.map oR), rsl 3 la ln lc (s.ll.map kR), rsl 8 ma mn mc (s.ml.map rrow)] ∧ M' = [cl b5 36 (stC b 1 s.sq oa on oc la ln lc ma mn mc s.now), cl b 59 (swC bb q 1 sa sn sc lm s.sq), own 37 96 sa sn sc ((s.ol).map oC), bookA bb (atM s.ml), mp lm lkK iK s.lk] ∧ μ = 60 - i) (.cons (t := 0) rfl <| .cons (t := 5) rfl <| SubK.nil _) (⟨0, ⟨[], [], [], [], 0, 0⟩, none, none, none, none, 0, 0, 0, 0, 0, 0, 0, 0, ⟨by omega, SInv.init⟩, rfl, rfl, rfl, rfl⟩) (.cons (t := 6) rfl <| SubK.nil _) qD qS ?_
  rintro K1 D1 M1 m1 ⟨i, s, sa, oa, la, ma, sn, sc, on, oc, ln, lc, mn, mc, ⟨⟨hi, hi60⟩, hI⟩, rfl, rfl, rfl, rfl⟩
  refine T.norm3 qA qA qA ?_
  have hI0 := hI
  obtain ⟨hO, hlm, hlc, hok, hsame, hndl, hndk, hsq0, hnow0⟩ := hI
  have hO8 := hO.lo
  refine T.ownLen (a := sa) (rows := s.ol.map oC) qM (fun hsl hsc => ?_)
  rw [List.length_map] at hsl
  refine T.rslLen2 (rows := s.ol.map oR) qM (fun hol hoc => ?_)
  rw [List.length_map] at hol
  refine T.rslLen2 (rows := s.ll.map kR) qM (fun hll hlcc => ?_)
  rw [List.length_map] at hll
  refine T.seq ?_
  refine T.seq ?_
  refine T.cutC (fun K' D' M' => ∃ (w : Bool), (w = true ↔ (i < zn ∧ i < 60)) ∧ K' = [(42, .bool w)] ∧ D' = [] ∧ M' = []) (M0 := []) (.cons (t := 0) rfl <| .cons (t := 5) rfl <| .cons (t := 6) rfl <| SubK.nil _) qS ?_ ?_
  · skip
    refine T.region ?_
    refine L.move rfl rfl ?_
    refine L.move rfl rfl ?_
    refine L.lenSl rfl Tryz.underlying22 rfl ?_
    refine L.ltI rfl rfl rfl ?_
    refine L.move rfl rfl ?_
    refine L.part (t := 39) rfl (fun h1 => ?_) (fun h1 => ?_)
    · try simp only [decide_eq_true_eq, decide_eq_false_iff_not, Bool.not_eq_true', Bool.not_eq_false', Bool.and_eq_true, Bool.or_eq_true] at h1
      refine L.guardT (dj := 39) rfl rfl rfl ?_
      refine L.move rfl rfl ?_
      refine L.guardT (dj := 39) rfl rfl rfl ?_
      refine L.ltI rfl rfl rfl ?_
      refine L.pickT rfl rfl rfl ?_
      refine L.nil ?_
      refine T.thenN ?_
      exact T.toJoin ⟨_, (by simp; omega), rfl, rfl, rfl⟩ (.cons (t := 42) rfl <| SubK.nil _) (.cons (t := 0) rfl <| .cons (t := 5) rfl <| .cons (t := 6) rfl <| SubK.nil _) qD qD qF
    · try simp only [decide_eq_true_eq, decide_eq_false_iff_not, Bool.not_eq_true', Bool.not_eq_false', Bool.and_eq_true, Bool.or_eq_true] at h1
      refine L.guardF (dj := 39) (c := false) rfl rfl rfl rfl rfl (by decide) ?_
      refine L.guardF (dj := 39) (c := false) rfl rfl rfl rfl rfl (by decide) ?_
      refine L.pickF rfl rfl rfl ?_
      refine L.nil ?_
      refine T.thenN ?_
      exact T.toJoin ⟨_, (by simp; omega), rfl, rfl, rfl⟩ (.cons (t := 42) rfl <| SubK.nil _) (.cons (t := 0) rfl <| .cons (t := 5) rfl <| .cons (t := 6) rfl <| SubK.nil _) qD qD qF
  rintro _ _ _ ⟨w, hw, rfl, rfl, rfl⟩
  refine T.norm3 qA qA qA ?_
  refine T.thenN ?_
  refine T.cond rfl (fun h42 => ?_) (fun h42 => ?_)
  · try simp only [decide_eq_true_eq, decide_eq_false_iff_not, Bool.not_eq_true', Bool.not_eq_false', Bool.and_eq_true, Bool.or_eq_true] at h42
    have hwt := hw.1 h42
    have hgi : zs[i]? = some (gd zs i) := gd_get (by omega)
    obtain ⟨z, hzz⟩ : ∃ x, x = gd zs i := ⟨_, rfl⟩
    rw [← hzz] at hgi
    have hgz : (zs.map aE)[i]? = some (aE z) := map_get hgi
    refine T.derive (φ := aA zs) (ψ := rsl 1 z.2.1.1 z.2.1.2.1 z.2.1.2.2.1 (z.2.1.2.2.2.map e3)) qM (fun h H => (H z (List.mem_of_getElem? hgi)).1) ?_
    refine T.derive (φ := aA zs) (ψ := rsl 1 z.2.2.1.1 z.2.2.1.2.1 z.2.2.1.2.2.1 (z.2.2.1.2.2.2.map e3)) qM (fun h H => (H z (List.mem_of_getElem? hgi)).2.1) ?_
    refine T.fact (φ := aA zs) qM (fun h H => (H z (List.mem_of_getElem? hgi)).2.2) (fun hzb => ?_)
    obtain ⟨hz1, hz2⟩ := hzb
    refine T.skip ?_
    refine T.thenN ?_
    refine T.seq ?_
    refine T.block ?_
    refine T.seq ?_
    refine T.region ?_
    refine L.move rfl rfl ?_
    refine L.move rfl rfl ?_
    refine L.idx (i := i) rfl Tryz.underlying22 sz41 rfl rfl qM (by first | rfl | omega | (simp; done)) qG (fun b47 o47 => ?_)
    refine L.loadA rfl ag41 rfl qN ?_
    refine L.alloc rfl ze41 (fun b7 => ?_)
    refine L.storeA ag41 rfl rfl qL qO qU qW ?_
    refine L.nil ?_
    refine T.freeze (A := cl b7 41 (aE z)) qP ?_
    refine T.thenN ?_
    refine T.seq ?_
    refine T.region ?_
    refine L.assign rfl rfl ?_
    refine L.nil ?_
    refine T.thenN ?_
    refine T.seq ?_
    refine T.seq ?_
    refine T.region ?_
    first | refine L.field0 rfl fo41_0 rfl ?_ | refine L.field rfl fo41_0 rfl ?_
    refine L.load rfl sc3 rfl qC ?_
    refine L.eqI rfl rfl rfl ?_
    refine L.nil ?_
    refine T.thenN ?_
    refine T.cutC (fun K' D' M' => ∃ (t : SS) (sa2 oa2 la2 ma2 : Option Addr) (sn2 sc2 on2 oc2 ln2 lc2 mn2 mc2 : Nat), (SInv t (i + 1)) ∧ K' = [] ∧ D' = [rsl 6 oa2 on2 oc2 (t.ol.map oR), rsl 3 la2 ln2 lc2 (t.ll.map kR), rsl 8 ma2 mn2 mc2 (t.ml.map rrow)] ∧ M' = [cl b5 36 (stC b 1 t.sq oa2 on2 oc2 la2 ln2 lc2 ma2 mn2 mc2 t.now), cl b 59 (swC bb q 1 sa2 sn2 sc2 lm t.sq), own 37 96 sa2 sn2 sc2 ((t.ol).map oC), bookA bb (atM t.ml), mp lm lkK iK t.lk]) (M0 := [cl b5 36 (stC b 1 s.sq oa on oc la ln lc ma mn mc s.now), cl b 59 (swC bb q 1 sa sn sc lm s.sq), own 37 96 sa sn sc ((s.ol).map oC), bookA bb (atM s.ml), mp lm lkK iK s.lk]) (.cons (t := 0) rfl <| .cons (t := 5) rfl <| .cons (t := 6) rfl <| SubK.nil _) qS ?_ ?_
    · skip
      refine T.cond rfl (fun h51 => ?_) (fun h51 => ?_)
      · try simp only [decide_eq_true_eq, decide_eq_false_iff_not, Bool.not_eq_true', Bool.not_eq_false', Bool.and_eq_true, Bool.or_eq_true] at h51
        refine T.seq ?_
        refine T.region ?_
        first | refine L.field0 rfl fo41_3 rfl ?_ | refine L.field rfl fo41_3 rfl ?_
        refine L.load rfl sc39 rfl qC ?_
        refine L.call rfl (evs.cons rfl <| evs.nil) qD qS (wants_spec (xs := z.2.1.2.2.2) hz1) ?_
        rintro _ _ _ ⟨wa, ta, wn, wc, tn, tc, rfl, hwn, htn, hw12, rfl, rfl⟩
        refine L.norm qA qA ?_
        refine L.move rfl rfl ?_
        refine L.extract rfl rfl rfl ?_
        refine L.extract rfl rfl rfl ?_
        refine L.assign rfl rfl ?_
        refine L.assign rfl rfl ?_
        refine L.nil ?_
        refine T.thenN ?_
        refine T.seq ?_
        refine T.region ?_
        first | refine L.field0 rfl fo41_4 rfl ?_ | refine L.field rfl fo41_4 rfl ?_
        refine L.load rfl sc39 rfl qC ?_
        refine L.call rfl (evs.cons rfl <| evs.nil) qD qS (hold_spec (xs := z.2.2.1.2.2.2) hz2) ?_
        rintro _ _ _ ⟨ha, hn, hc, rfl, hhn, hh6, rfl, rfl⟩
        refine L.norm qA qA ?_
        refine L.assign rfl rfl ?_
        refine L.nil ?_
        refine T.thenN ?_
        refine T.seq ?_
        refine T.region ?_
        first | refine L.field0 rfl fo36_0 rfl ?_ | refine L.field rfl fo36_0 rfl ?_
        refine L.load rfl sc24 rfl qC ?_
        first | refine L.field0 rfl fo36_2 rfl ?_ | refine L.field rfl fo36_2 rfl ?_
        refine L.load rfl sc3 rfl qC ?_
        refine L.move rfl rfl ?_
        refine L.move rfl rfl ?_
        refine L.call rfl (evs.cons rfl <| evs.cons rfl <| evs.cons rfl <| evs.cons rfl <| evs.nil) qD qS (askW_spec (b := b) (bb := bb) (q := q) (lm := lm) (o := 1) (F := atM s.ml) (lk := s.lk) (ol := s.ol) (hs := hsF z.2.2.1.2.2.2) (ws := chs z.2.1.2.2.2) (now := s.now) (by omega) (by omega) (by omega) ⟨by omega, by omega⟩) ?_
        rintro _ _ _ ⟨ra, sa2, rn, rc, sn2, sc2, sq2, ol2, out2, rfl, hAR, hrn, hsn2, rfl, rfl⟩
        refine L.norm qA qA ?_
        have he := askR_ref hsame (fun h hh => (hsF_in h hh).1) hAR
        have hin := ask_inv (F := atM s.ml) (hs := hsF z.2.2.1.2.2.2) (now := s.now) (ll := s.ll) hsF_in ⟨by omega, by omega⟩ (P := LetP (atM s.ml) s.now) (fun w n k h1 h2 h3 h4 => ⟨h1, h2, h3, h4⟩) (ws := chs z.2.1.2.2.2) (ol := s.ol) (out := []) (sq := s.sq) chs_in hO hsq0.1 (by simp)
        have hcl := @chs_len z.2.1.2.2.2
        have hol2 := askR_len hAR
        rw [List.length_nil] at hol2
        rw [he] at hin
        obtain ⟨hO2, hsq2, hP2⟩ := hin
        simp only at hO2 hsq2 hP2
        have hO28 := hO2.lo
        have hsQ := askR_sq hAR
        refine L.assign rfl rfl ?_
        refine L.nil ?_
        refine T.ownRsl (rows := out2.map (lR 1)) qP ?_
        refine T.thenN ?_
        refine T.seq ?_
        refine T.region ?_
        first | refine L.field0 rfl fo36_1 rfl ?_ | refine L.field rfl fo36_1 rfl ?_
        refine L.loadA rfl ag34 rfl qN ?_
        first | refine L.field0 rfl fo36_2 rfl ?_ | refine L.field rfl fo36_2 rfl ?_
        refine L.load rfl sc3 rfl qC ?_
        refine L.move rfl rfl ?_
        refine L.move rfl rfl ?_
        refine L.call rfl (evs.cons rfl <| evs.cons rfl <| evs.cons rfl <| evs.cons rfl <| evs.nil) qD qS (rask_spec (o := 1) (sq := s.sq) (ol := s.ol) (ll := s.ll) (ml := s.ml) (hs := hsF z.2.2.1.2.2.2) (ws := chs z.2.1.2.2.2) (now := s.now) (by omega) (by omega) ⟨by omega, by omega⟩ (by omega) (by omega) (by omega)) ?_
        rintro _ _ _ ⟨r2, oa2, ya, on2, oc2, yn, yc, rfl, hr2, hr21, hr22, rfl, rfl⟩
        refine L.norm qA qA ?_
        obtain rfl := hr2.trans he
        simp only at hr21 hr22
        refine L.move rfl rfl ?_
        refine L.extract rfl rfl rfl ?_
        refine L.extract rfl rfl rfl ?_
        refine L.alloc rfl ze34 (fun b13 => ?_)
        refine L.storeA ag34 rfl rfl qL qO qU qW ?_
        refine L.assign rfl rfl ?_
        refine L.nil ?_
        refine T.thenN ?_
        refine T.seq ?_
        refine T.region ?_
        refine L.loadA rfl ag34 rfl qN ?_
        first | refine L.field0 rfl fo36_1 rfl ?_ | refine L.field rfl fo36_1 rfl ?_
        refine L.storeA ag34 rfl rfl qL qO qU qW ?_
        refine L.nil ?_
        refine T.thenN ?_
        refine T.seq ?_
        refine T.region ?_
        refine L.move rfl rfl ?_
        refine L.lenSl rfl Tryz.underlying72 rfl ?_
        refine L.move rfl rfl ?_
        refine L.nil ?_
        refine T.thenN ?_
        refine T.block ?_
        refine T.loop (fun K' D' M' μ => ∃ (k : Nat), (k ≤ rn) ∧ K' = [(82, .int .i64 k)] ∧ D' = [] ∧ M' = [] ∧ μ = rn - k) (.cons (t := 0) rfl <| .cons (t := 5) rfl <| .cons (t := 6) rfl <| .cons (t := 80) rfl <| .cons (t := 81) rfl <| SubK.nil _) (⟨0, Nat.zero_le _, rfl, rfl, rfl, rfl⟩) (.cons (t := 82) rfl <| SubK.nil _) qD qS ?_
        rintro K1 D1 M1 m1 ⟨k, hk, rfl, rfl, rfl, rfl⟩
        refine T.norm3 qA qA qA ?_
        refine T.seq ?_
        refine T.region ?_
        refine L.ltI rfl rfl rfl ?_
        refine L.nil ?_
        refine T.thenN ?_
        refine T.seq ?_
        refine T.cond rfl (fun h83 => ?_) (fun h83 => ?_)
        · try simp only [decide_eq_true_eq, decide_eq_false_iff_not, Bool.not_eq_true', Bool.not_eq_false', Bool.and_eq_true, Bool.or_eq_true] at h83
          refine T.skip ?_
          refine T.thenN ?_
          refine T.seq ?_
          refine T.block ?_
          refine T.seq ?_
          obtain ⟨x, hgj⟩ := ex_get (l := out2) (k := k) (by omega)
          have hgl : (out2.map (lR 1))[k]? = some (lR 1 x) := map_get hgj
          have hx32 := x.1.2.1.2
          have hxl := @lR_len 1 x
          have hpx := hP2 x (List.mem_of_getElem? hgj)
          have hsx : x.2.2.1 ≤ sq2 := (hsQ.2 x (List.mem_of_getElem? hgj)).resolve_left (fun q => by cases q)
          have hw1 : x.1.1 = 1 := by obtain ⟨m, _, _, e⟩ := hpx.1; rw [e]; rfl
          refine T.region ?_
          refine L.idx (i := k) rfl Tryz.underlying72 sz77 rfl rfl qM (by first | rfl | omega | (simp; done)) qG (fun b84 o84 => ?_)
          refine L.loadA rfl ag77 rfl (CellsN.ofD qM (lR_len (o := 1) (x := x))) ?_
          refine L.alloc rfl ze77 (fun b16 => ?_)
          refine L.storeA ag77 rfl rfl qL qO qU qW ?_
          refine L.nil ?_
          refine T.thenN ?_
          refine T.seq ?_
          refine T.regionQ (by kernel_rfl) (by kernel_rfl) ?_
          first | refine L.field0 rfl fo36_0 rfl ?_ | refine L.field rfl fo36_0 rfl ?_
          refine L.load rfl sc24 rfl qC ?_
          refine L.nilCheck rfl rfl ?_
          first | refine L.field0 rfl fo59_0 rfl ?_ | refine L.field rfl fo59_0 rfl ?_
          refine L.load rfl sc54 rfl qC ?_
          first | refine L.field0 rfl fo77_2 rfl ?_ | refine L.field rfl fo77_2 rfl ?_
          refine L.load rfl sc3 rfl qC ?_
          first | refine L.field0 rfl fo36_2 rfl ?_ | refine L.field rfl fo36_2 rfl ?_
          refine L.load rfl sc3 rfl qC ?_
          refine L.callF rfl (evs.cons rfl <| evs.cons rfl <| evs.cons rfl <| evs.nil) qD qS (may_spec (F := atM s.ml)) (by rintro u D1 M1 ⟨rfl, rfl, rfl⟩; exact ⟨rfl, _, qA, qF⟩) ?_
          refine L.notB rfl rfl ?_
          refine L.move rfl rfl ?_
          refine L.known (t := 97) rfl (show _ = Value.bool false from congrArg Value.bool (by rw [hpx.2.2.1]; rfl)) ?_
          refine L.guardT (dj := 97) rfl rfl rfl ?_
          first | refine L.field0 rfl fo77_2 rfl ?_ | refine L.field rfl fo77_2 rfl ?_
          refine L.guardT (dj := 97) rfl rfl rfl ?_
          refine L.load rfl sc3 rfl qC ?_
          refine L.guardT (dj := 97) rfl rfl rfl ?_
          refine L.eqI rfl rfl rfl ?_
          refine L.pickF rfl rfl rfl ?_
          refine L.move rfl rfl ?_
          refine L.known (t := 102) rfl (show _ = Value.bool false from congrArg Value.bool (decide_eq_false hpx.2.1.2.2)) ?_
          refine L.guardT (dj := 102) rfl rfl rfl ?_
          refine L.loadA rfl ag77 rfl qN ?_
          refine L.guardT (dj := 102) rfl rfl rfl ?_
          refine L.callF rfl (evs.cons rfl <| evs.nil) qD qS (chk7_spec (x := x) ⟨hpx.2.1.1, hpx.2.1.2.1⟩ ⟨hpx.2.2.2, by omega⟩ hw1) (by rintro u D1 M1 ⟨rfl, rfl, rfl⟩; exact ⟨rfl, _, qA, qF⟩) ?_
          refine L.guardT (dj := 102) rfl rfl rfl ?_
          refine L.neI rfl rfl rfl ?_
          refine L.pickF rfl rfl rfl ?_
          refine L.nilQ ?_
          refine T.thenN ?_
          refine T.condF rfl (by decide) ?_
          refine T.skip ?_
          refine T.blkN ?_
          refine T.thenN ?_
          refine T.region ?_
          refine L.addN rfl rfl rfl (by omega) ?_
          refine L.move rfl rfl ?_
          refine L.nil ?_
          refine T.thenN ?_
          exact T.back ⟨k + 1, qT, rfl, rfl, rfl, rfl⟩ qI (.cons (t := 82) rfl <| SubK.nil _) (.cons (t := 0) rfl <| .cons (t := 5) rfl <| .cons (t := 6) rfl <| .cons (t := 80) rfl <| .cons (t := 81) rfl <| SubK.nil _) qD qD qF
        · try simp only [decide_eq_true_eq, decide_eq_false_iff_not, Bool.not_eq_true', Bool.not_eq_false', Bool.and_eq_true, Bool.or_eq_true] at h83
          refine T.exit ?_
          refine T.thenX ?_
          refine T.thenX ?_
          refine T.blkX ?_
          refine T.thenN ?_
          exact T.toJoin ⟨⟨ol2, s.ml, s.lk, s.ll, sq2, s.now⟩, _, _, _, _, _, _, _, _, _, _, _, _, ⟨hO2, (by show s.ml.length ≤ 8 * (i + 1); omega), (by show s.ll.length ≤ i + 1; omega), hok, hsame, hndl, hndk, ⟨(by show 0 ≤ sq2; omega), (by show sq2 ≤ 12 * ((i + 1 : Nat) : Int); omega)⟩, ⟨hnow0.1, (by show s.now ≤ 15 * ((i + 1 : Nat) : Int); omega)⟩⟩, rfl, rfl, rfl⟩ (SubK.nil _) (.cons (t := 0) rfl <| .cons (t := 5) rfl <| .cons (t := 6) rfl <| SubK.nil _) qD qD qF
      · try simp only [decide_eq_true_eq, decide_eq_false_iff_not, Bool.not_eq_true', Bool.not_eq_false', Bool.and_eq_true, Bool.or_eq_true] at h51
        refine T.seq ?_
        refine T.region ?_
        refine L.loadA rfl ag36 rfl qN ?_
        refine L.loadA rfl ag41 rfl qN ?_
        refine L.call rfl (evs.cons rfl <| evs.cons rfl <| evs.nil) qD qS (does_spec (i := i) (s := s) (z := z) hI0 (by omega) hz1 hz2) ?_
        rintro _ _ _ ⟨t, sa2, oa2, la2, ma2, sn2, sc2, on2, oc2, ln2, lc2, mn2, mc2, rfl, hI2, hJ2, rfl, rfl⟩
        refine L.norm qA qA ?_
        refine L.move rfl rfl ?_
        refine L.extract rfl rfl rfl ?_
        refine L.extract rfl rfl rfl ?_
        refine L.storeA ag36 rfl rfl qL qO qU qW ?_
        refine L.assign rfl rfl ?_
        refine L.nil ?_
        refine T.thenN ?_
        refine T.seq ?_
        refine T.region ?_
        refine L.move rfl rfl ?_
        refine L.notB rfl rfl ?_
        refine L.nil ?_
        refine T.thenN ?_
        refine T.condF rfl rfl ?_
        refine T.skip ?_
        refine T.thenN ?_
        exact T.toJoin ⟨t, _, _, _, _, _, _, _, _, _, _, _, _, hI2, rfl, rfl, rfl⟩ (SubK.nil _) (.cons (t := 0) rfl <| .cons (t := 5) rfl <| .cons (t := 6) rfl <| SubK.nil _) qD qD qF
    rintro _ _ _ ⟨t, sa2, oa2, la2, ma2, sn2, sc2, on2, oc2, ln2, lc2, mn2, mc2, hI2, rfl, rfl, rfl⟩
    refine T.norm3 qA qA qA ?_
    have hO := hI2.o
    have hlo8 := hO.lo
    refine T.ownLen (a := sa2) (rows := t.ol.map oC) qM (fun hsl2 hsc2 => ?_)
    rw [List.length_map] at hsl2
    refine T.rslLen2 (rows := t.ol.map oR) qM (fun hol2 hoc2 => ?_)
    rw [List.length_map] at hol2
    refine T.thenN ?_
    refine T.seq ?_
    refine T.region ?_
    refine L.makeMap iK iK rfl (fun mo => ?_)
    refine L.assign rfl rfl ?_
    refine L.nil ?_
    refine T.thenN ?_
    refine T.seq ?_
    refine T.seq ?_
    refine T.region ?_
    first | refine L.field0 rfl fo36_1 rfl ?_ | refine L.field rfl fo36_1 rfl ?_
    first | refine L.field0 rfl fo34_2 rfl ?_ | refine L.field rfl fo34_2 rfl ?_
    refine L.load rfl sc30 rfl qC ?_
    refine L.lenSl rfl Tryz.underlying30 rfl ?_
    refine L.move rfl rfl ?_
    refine L.nil ?_
    refine T.thenN ?_
    refine T.block ?_
    refine T.eqv qP (show mp mo iK iK [] = mp mo iK iK (cntL (t.ol.take 0)) from by rw [List.take_zero]; rfl) ?_
    refine T.loop (fun K' D' M' μ => ∃ (k : Nat), (k ≤ on2) ∧ K' = [(121, .int .i64 k)] ∧ D' = [] ∧ M' = [mp mo iK iK (cntL (t.ol.take k))] ∧ μ = on2 - k) (.cons (t := 0) rfl <| .cons (t := 5) rfl <| .cons (t := 6) rfl <| .cons (t := 17) rfl <| .cons (t := 119) rfl <| .cons (t := 120) rfl <| SubK.nil _) (⟨0, Nat.zero_le _, rfl, rfl, rfl, rfl⟩) (.cons (t := 121) rfl <| SubK.nil _) qD qS ?_
    rintro K1 D1 M1 m1 ⟨k, hk, rfl, rfl, rfl, rfl⟩
    refine T.norm3 qA qA qA ?_
    refine T.seq ?_
    refine T.region ?_
    refine L.ltI rfl rfl rfl ?_
    refine L.nil ?_
    refine T.thenN ?_
    refine T.seq ?_
    refine T.cond rfl (fun h122 => ?_) (fun h122 => ?_)
    · try simp only [decide_eq_true_eq, decide_eq_false_iff_not, Bool.not_eq_true', Bool.not_eq_false', Bool.and_eq_true, Bool.or_eq_true] at h122
      refine T.skip ?_
      refine T.thenN ?_
      refine T.seq ?_
      refine T.block ?_
      refine T.seq ?_
      obtain ⟨x, hgj⟩ := ex_get (l := t.ol) (k := k) (by omega)
      have hgo : (t.ol.map oR)[k]? = some (oR x) := map_get hgj
      have hgw : (t.ol.map fun x => wC x.1)[k]? = some (wC x.1) := map_get (f := fun x => wC x.1) hgj
      have hx32 := x.1.2.1.2
      have hwl := wC_len x.1
      
      refine T.region ?_
      refine L.idx (i := k) rfl Tryz.underlying30 sz47 rfl rfl qM (by first | rfl | omega | (simp; done)) qG (fun b123 o123 => ?_)
      refine L.loadA rfl ag47 rfl qN ?_
      refine L.alloc rfl ze47 (fun b19 => ?_)
      refine L.storeA ag47 rfl rfl qL qO qU qW ?_
      refine L.nil ?_
      refine T.thenN ?_
      have hcg := @cntL_get (t.ol.take k) x.2.1
      have hcl := @cntO_le (t.ol.take k) x.2.1
      rw [List.length_take] at hcl
      refine T.region ?_
      refine L.move rfl rfl ?_
      first | refine L.field0 rfl fo47_1 rfl ?_ | refine L.field rfl fo47_1 rfl ?_
      refine L.load rfl sc3 rfl qC ?_
      refine L.lookup1 (kenc := iK) (venc := iK) (l := (cntL (t.ol.take k))) (k := x.2.1) rfl Tryz.underlying79 kt3 zv3 rfl rfl qM ?_
      refine L.known (t := 128) (u := .int .i64 ((look ((cntL (t.ol.take k))) x.2.1).getD 0)) rfl (by cases look ((cntL (t.ol.take k))) x.2.1 <;> rfl) ?_
      refine L.addN rfl rfl rfl (by omega) ?_
      refine L.mapUpdate (kenc := iK) (venc := iK) (l := (cntL (t.ol.take k))) (k := x.2.1) (v := (look (cntL (t.ol.take k)) x.2.1).getD 0 + 1) Tryz.underlying79 kt3 rfl rfl rfl rfl qP ?_
      refine L.nil ?_
      refine T.blkN ?_
      refine T.thenN ?_
      refine T.region ?_
      refine L.addN rfl rfl rfl (by omega) ?_
      refine L.move rfl rfl ?_
      refine L.nil ?_
      refine T.thenN ?_
      rw [← cntL_s hgj]
      exact T.back ⟨k + 1, (by omega), rfl, rfl, rfl, rfl⟩ qI (.cons (t := 121) rfl <| SubK.nil _) (.cons (t := 0) rfl <| .cons (t := 5) rfl <| .cons (t := 6) rfl <| .cons (t := 17) rfl <| .cons (t := 119) rfl <| .cons (t := 120) rfl <| SubK.nil _) qD qD qF
    · try simp only [decide_eq_true_eq, decide_eq_false_iff_not, Bool.not_eq_true', Bool.not_eq_false', Bool.and_eq_true, Bool.or_eq_true] at h122
      obtain rfl : on2 = k := by omega
      refine T.exit ?_
      refine T.thenX ?_
      refine T.thenX ?_
      refine T.blkX ?_
      refine T.thenN ?_
      refine T.seq ?_
      refine T.region ?_
      refine L.makeMap aK iK rfl (fun me => ?_)
      refine L.assign rfl rfl ?_
      refine L.nil ?_
      refine T.thenN ?_
      refine T.seq ?_
      refine T.seq ?_
      refine T.region ?_
      first | refine L.field0 rfl fo36_0 rfl ?_ | refine L.field rfl fo36_0 rfl ?_
      refine L.load rfl sc24 rfl qC ?_
      refine L.call rfl (evs.cons rfl <| evs.nil) qD qS (open2_spec (b := b) (bb := bb) (q := q) (lm := lm) (o := 1) (sq := t.sq) (F := atM t.ml) (lk := t.lk) (ol := t.ol) (by omega)) ?_
      rintro _ _ _ ⟨wa, wn, wc, rfl, hwn, rfl, rfl⟩
      refine L.norm qA qA ?_
      refine L.ownRsl (rows := t.ol.map fun x => wC x.1) qP ?_
      refine L.lenSl rfl Tryz.underlying42 rfl ?_
      refine L.move rfl rfl ?_
      refine L.nil ?_
      refine T.thenN ?_
      refine T.block ?_
      refine T.eqv qP (show mp me aK iK [] = mp me aK iK (seenL (t.ol.take 0)) from by rw [List.take_zero]; rfl) ?_
      refine T.loop (fun K' D' M' μ => ∃ (k : Nat), (k ≤ wn) ∧ K' = [(136, .int .i64 k)] ∧ D' = [] ∧ M' = [mp me aK iK (seenL (t.ol.take k))] ∧ μ = wn - k) (.cons (t := 0) rfl <| .cons (t := 5) rfl <| .cons (t := 6) rfl <| .cons (t := 17) rfl <| .cons (t := 20) rfl <| .cons (t := 134) rfl <| .cons (t := 135) rfl <| SubK.nil _) (⟨0, Nat.zero_le _, rfl, rfl, rfl, rfl⟩) (.cons (t := 136) rfl <| SubK.nil _) qD qS ?_
      rintro K1 D1 M1 m1 ⟨k, hk, rfl, rfl, rfl, rfl⟩
      refine T.norm3 qA qA qA ?_
      refine T.seq ?_
      refine T.region ?_
      refine L.ltI rfl rfl rfl ?_
      refine L.nil ?_
      refine T.thenN ?_
      refine T.seq ?_
      refine T.cond rfl (fun h137 => ?_) (fun h137 => ?_)
      · try simp only [decide_eq_true_eq, decide_eq_false_iff_not, Bool.not_eq_true', Bool.not_eq_false', Bool.and_eq_true, Bool.or_eq_true] at h137
        refine T.skip ?_
        refine T.thenN ?_
        refine T.seq ?_
        refine T.block ?_
        refine T.seq ?_
        obtain ⟨x, hgj⟩ := ex_get (l := t.ol) (k := k) (by omega)
        have hgo : (t.ol.map oR)[k]? = some (oR x) := map_get hgj
        have hgw : (t.ol.map fun x => wC x.1)[k]? = some (wC x.1) := map_get (f := fun x => wC x.1) hgj
        have hx32 := x.1.2.1.2
        have hwl := wC_len x.1
        
        refine T.region ?_
        refine L.idx (i := k) rfl Tryz.underlying42 sz52 rfl rfl qM (by first | rfl | omega | (simp; done)) qG (fun b138 o138 => ?_)
        refine L.loadA rfl ag52 rfl (CellsN.ofD qM (wC_len _)) ?_
        refine L.alloc rfl ze52 (fun b22 => ?_)
        refine L.storeA ag52 rfl rfl qL qO qU qW ?_
        refine L.nil ?_
        refine T.thenN ?_
        refine T.seq ?_
        refine T.freeze (A := cl b22 52 (wC x.1)) qP ?_
        refine T.regionA (clsL [1, 1, 1, 2, 1, 2, 1, 2]) (by kernel_rfl) ?_
        refine A.takeP (i := 0) rfl rfl rfl rfl (by kernel_rfl) (by kernel_rfl) (by kernel_rfl) rfl qD ?_
        refine L.move rfl rfl ?_
        refine A.took ?_
        refine A.takeP (i := 1) rfl rfl rfl rfl (by kernel_rfl) (by kernel_rfl) (by kernel_rfl) rfl qD ?_
        first | refine L.field0 rfl fo52_1 rfl ?_ | refine L.field rfl fo52_1 rfl ?_
        refine A.took ?_
        refine A.takeP (i := 2) rfl rfl rfl rfl (by kernel_rfl) (by kernel_rfl) (by kernel_rfl) rfl qD ?_
        refine L.loadA rfl ag50 rfl qN ?_
        refine A.took ?_
        refine A.branch (is := [3, 5]) (by kernel_rfl) (by decide) (Each.cons rfl ?_ <| Each.cons rfl ?_ <| Each.nil) 
        · skip
          refine L.lookup1 (kenc := aK) (venc := iK) (l := (seenL (t.ol.take k))) (k := x.1.2.1) rfl Tryz.underlying80 (keyT_arr Tryz.underlying50 Tryz.underlying5 sc5) zv3 rfl rfl qM ?_
          refine L.known (t := 143) (u := .int .i64 ((look ((seenL (t.ol.take k))) x.1.2.1).getD 0)) rfl (by cases look ((seenL (t.ol.take k))) x.1.2.1 <;> rfl) ?_
          refine L.known (t := 143) (u := .int .i64 0) rfl (by rw [seen_none hO.nid hgj]; rfl) ?_
          refine A.backT rfl qD ?_
          refine A.takeP (i := 4) rfl rfl rfl rfl (by kernel_rfl) (by kernel_rfl) (by kernel_rfl) rfl qD ?_
          refine L.addN rfl rfl rfl (by omega) ?_
          refine A.took ?_
          refine A.branch (is := [5]) (by kernel_rfl) (by decide) (Each.cons rfl ?_ <| Each.nil) 
          refine L.mapEntry (kenc := aK) (venc := iK) (l := (seenL (t.ol.take k))) (k := x.1.2.1) (z0 := 0) rfl Tryz.underlying80 (keyT_arr Tryz.underlying50 Tryz.underlying5 sc5) zv3 rfl rfl qP (fun st => ?_)
          refine A.backT rfl qD ?_
          refine A.takeP (i := 6) rfl rfl rfl rfl (by kernel_rfl) (by kernel_rfl) (by kernel_rfl) rfl qD ?_
          refine L.extract rfl rfl rfl ?_
          refine A.took ?_
          refine A.branch (is := [7]) (by kernel_rfl) (by decide) (Each.cons rfl ?_ <| Each.nil) 
          refine L.entryStore (kenc := aK) (venc := iK) (l := Cv.put (seenL (t.ol.take k)) x.1.2.1 ((look (seenL (t.ol.take k)) x.1.2.1).getD 0)) (k := x.1.2.1) (v := 1) rfl rfl rfl rfl qP ?_
          rw [put_put, seen_s hO.nid hgj]
          refine A.backT rfl qD ?_
          refine A.done (by kernel_rfl) ?_
          refine T.thenN ?_
          refine T.seq ?_
          refine T.region ?_
          refine L.move rfl rfl ?_
          first | refine L.field0 rfl fo52_1 rfl ?_ | refine L.field rfl fo52_1 rfl ?_
          refine L.loadA rfl ag50 rfl qN ?_
          refine L.lookup1 (kenc := aK) (venc := iK) (l := (seenL (t.ol.take (k + 1)))) (k := x.1.2.1) rfl Tryz.underlying80 (keyT_arr Tryz.underlying50 Tryz.underlying5 sc5) zv3 rfl rfl qM ?_
          refine L.known (t := 150) (u := .int .i64 ((look ((seenL (t.ol.take (k + 1)))) x.1.2.1).getD 0)) rfl (by cases look ((seenL (t.ol.take (k + 1)))) x.1.2.1 <;> rfl) ?_
          refine L.known (t := 150) (u := .int .i64 1) rfl (by rw [← seen_s hO.nid hgj, look_put, if_pos rfl]; rfl) ?_
          refine L.gtI rfl rfl rfl ?_
          refine L.nil ?_
          refine T.thenN ?_
          refine T.condF rfl (by simp) ?_
          refine T.skip ?_
          refine T.blkN ?_
          refine T.thenN ?_
          refine T.region ?_
          refine L.addN rfl rfl rfl (by omega) ?_
          refine L.move rfl rfl ?_
          refine L.nil ?_
          refine T.thenN ?_
          exact T.back ⟨k + 1, qT, rfl, rfl, rfl, rfl⟩ qI (.cons (t := 136) rfl <| SubK.nil _) (.cons (t := 0) rfl <| .cons (t := 5) rfl <| .cons (t := 6) rfl <| .cons (t := 17) rfl <| .cons (t := 20) rfl <| .cons (t := 134) rfl <| .cons (t := 135) rfl <| SubK.nil _) qD qD qF
        · skip
          refine L.mapEntry (kenc := aK) (venc := iK) (l := (seenL (t.ol.take k))) (k := x.1.2.1) (z0 := 0) rfl Tryz.underlying80 (keyT_arr Tryz.underlying50 Tryz.underlying5 sc5) zv3 rfl rfl qP (fun st => ?_)
          refine A.backT rfl qD ?_
          refine A.takeP (i := 6) rfl rfl rfl rfl (by kernel_rfl) (by kernel_rfl) (by kernel_rfl) rfl qD ?_
          refine L.extract rfl rfl rfl ?_
          refine A.took ?_
          refine A.branch (is := [3]) (by kernel_rfl) (by decide) (Each.cons rfl ?_ <| Each.nil) 
          refine L.lookup1E (kenc := aK) (venc := iK) (l := Cv.put (seenL (t.ol.take k)) x.1.2.1 ((look (seenL (t.ol.take k)) x.1.2.1).getD 0)) (k := x.1.2.1) rfl Tryz.underlying80 (keyT_arr Tryz.underlying50 Tryz.underlying5 sc5) zv3 rfl rfl qM ?_
          refine L.known (t := 143) (u := .int .i64 ((look (Cv.put (seenL (t.ol.take k)) x.1.2.1 ((look (seenL (t.ol.take k)) x.1.2.1).getD 0)) x.1.2.1).getD 0)) rfl (by cases look (Cv.put (seenL (t.ol.take k)) x.1.2.1 ((look (seenL (t.ol.take k)) x.1.2.1).getD 0)) x.1.2.1 <;> rfl) ?_
          refine L.known (t := 143) (u := .int .i64 0) rfl (by rw [look_put, if_pos rfl, seen_none hO.nid hgj]; rfl) ?_
          refine A.backT rfl qD ?_
          refine A.takeP (i := 4) rfl rfl rfl rfl (by kernel_rfl) (by kernel_rfl) (by kernel_rfl) rfl qD ?_
          refine L.addN rfl rfl rfl (by omega) ?_
          refine A.took ?_
          refine A.branch (is := [7]) (by kernel_rfl) (by decide) (Each.cons rfl ?_ <| Each.nil) 
          refine L.entryStore (kenc := aK) (venc := iK) (l := Cv.put (seenL (t.ol.take k)) x.1.2.1 ((look (seenL (t.ol.take k)) x.1.2.1).getD 0)) (k := x.1.2.1) (v := 1) rfl rfl rfl rfl qP ?_
          rw [put_put, seen_s hO.nid hgj]
          refine A.backT rfl qD ?_
          refine A.done (by kernel_rfl) ?_
          refine T.thenN ?_
          refine T.seq ?_
          refine T.region ?_
          refine L.move rfl rfl ?_
          first | refine L.field0 rfl fo52_1 rfl ?_ | refine L.field rfl fo52_1 rfl ?_
          refine L.loadA rfl ag50 rfl qN ?_
          refine L.lookup1 (kenc := aK) (venc := iK) (l := (seenL (t.ol.take (k + 1)))) (k := x.1.2.1) rfl Tryz.underlying80 (keyT_arr Tryz.underlying50 Tryz.underlying5 sc5) zv3 rfl rfl qM ?_
          refine L.known (t := 150) (u := .int .i64 ((look ((seenL (t.ol.take (k + 1)))) x.1.2.1).getD 0)) rfl (by cases look ((seenL (t.ol.take (k + 1)))) x.1.2.1 <;> rfl) ?_
          refine L.known (t := 150) (u := .int .i64 1) rfl (by rw [← seen_s hO.nid hgj, look_put, if_pos rfl]; rfl) ?_
          refine L.gtI rfl rfl rfl ?_
          refine L.nil ?_
          refine T.thenN ?_
          refine T.condF rfl (by simp) ?_
          refine T.skip ?_
          refine T.blkN ?_
          refine T.thenN ?_
          refine T.region ?_
          refine L.addN rfl rfl rfl (by omega) ?_
          refine L.move rfl rfl ?_
          refine L.nil ?_
          refine T.thenN ?_
          exact T.back ⟨k + 1, qT, rfl, rfl, rfl, rfl⟩ qI (.cons (t := 136) rfl <| SubK.nil _) (.cons (t := 0) rfl <| .cons (t := 5) rfl <| .cons (t := 6) rfl <| .cons (t := 17) rfl <| .cons (t := 20) rfl <| .cons (t := 134) rfl <| .cons (t := 135) rfl <| SubK.nil _) qD qD qF
      · try simp only [decide_eq_true_eq, decide_eq_false_iff_not, Bool.not_eq_true', Bool.not_eq_false', Bool.and_eq_true, Bool.or_eq_true] at h137
        obtain rfl : wn = k := by omega
        refine T.exit ?_
        refine T.thenX ?_
        refine T.thenX ?_
        refine T.blkX ?_
        refine T.thenN ?_
        refine T.seq ?_
        refine T.seq ?_
        refine T.eqv qP (show mp mo iK iK (cntL (t.ol.take on2)) = mp mo iK iK (cntL t.ol) from by rw [List.take_of_length_le (by omega)]) ?_
        refine T.mpNodup (kenc := iK) (venc := iK) (b := mo) qM (fun hnd => ?_)
        refine T.region ?_
        refine L.move rfl rfl ?_
        refine L.range (kenc := iK) (venc := iK) rfl Tryz.underlying79 rfl qP (fun it => ?_)
        refine L.nil ?_
        refine T.thenN ?_
        refine T.block ?_
        refine T.loop (fun K' D' M' μ => ∃ (rest : List Int) (cur : Option Int), K' = [] ∧ D' = [] ∧ M' = [mpi mo it iK iK (cntL t.ol) rest cur] ∧ μ = rest.length) (.cons (t := 0) rfl <| .cons (t := 5) rfl <| .cons (t := 6) rfl <| .cons (t := 154) rfl <| SubK.nil _) (⟨(cntL t.ol).map Prod.fst, none, rfl, rfl, rfl, rfl⟩) (SubK.nil _) qD qS ?_
        rintro K1 D1 M1 m1 ⟨rest, cur, rfl, rfl, rfl, rfl⟩
        refine T.norm3 qA qA qA ?_
        refine T.seq ?_
        refine T.region ?_
        refine L.next rfl rfl qP (fun hre => ?_) (fun k v rs hpe hkv => ?_)
        · skip
          skip
          refine L.extract rfl rfl rfl ?_
          refine L.nil ?_
          refine T.thenN ?_
          refine T.seq ?_
          refine T.condF rfl rfl ?_
          refine T.exit ?_
          refine T.thenX ?_
          refine T.thenX ?_
          refine T.blkX ?_
          refine T.thenN ?_
          refine T.seq ?_
          refine T.region ?_
          first | refine L.field0 rfl fo36_0 rfl ?_ | refine L.field rfl fo36_0 rfl ?_
          refine L.load rfl sc24 rfl qC ?_
          refine L.call rfl (evs.cons rfl <| evs.nil) qD qS (open2_spec (b := b) (bb := bb) (q := q) (lm := lm) (o := 1) (sq := t.sq) (F := atM t.ml) (lk := t.lk) (ol := t.ol) (by omega)) ?_
          rintro _ _ _ ⟨wa, wn, wc, rfl, hwn, rfl, rfl⟩
          refine L.norm qA qA ?_
          refine L.lenSl rfl Tryz.underlying42 rfl ?_
          refine L.gtI rfl rfl rfl ?_
          refine L.nil ?_
          refine T.thenN ?_
          refine T.condF rfl (decide_eq_false (by omega)) ?_
          refine T.skip ?_
          refine T.blkN ?_
          refine T.thenN ?_
          refine T.region ?_
          refine L.move rfl rfl ?_
          refine L.addN rfl rfl rfl (by omega) ?_
          refine L.assign rfl rfl ?_
          refine L.nil ?_
          refine T.thenN ?_
          exact T.back ⟨i + 1, t, _, _, _, _, _, _, _, _, _, _, _, _, ⟨by omega, hI2⟩, rfl, rfl, rfl, rfl⟩ qI (.cons (t := 6) rfl <| SubK.nil _) (.cons (t := 0) rfl <| .cons (t := 5) rfl <| SubK.nil _) qD qD qF
        · skip
          skip
          refine L.extract rfl rfl rfl ?_
          refine L.nil ?_
          refine T.thenN ?_
          refine T.seq ?_
          refine T.condT rfl rfl ?_
          refine T.skip ?_
          refine T.thenN ?_
          refine T.block ?_
          refine T.seq ?_
          refine T.region ?_
          refine L.entry (ent_inj iK_inj hnd hkv) rfl rfl qM hkv ?_
          have hv4 := cntL_in hnd hkv
          have hm4 := hO.most k
          refine L.extract rfl rfl rfl ?_
          refine L.assign rfl rfl ?_
          refine L.nil ?_
          refine T.thenN ?_
          refine T.seq ?_
          refine T.region ?_
          refine L.move rfl rfl ?_
          refine L.gtI rfl rfl rfl ?_
          refine L.nil ?_
          refine T.thenN ?_
          refine T.condF rfl (decide_eq_false (by omega)) ?_
          refine T.skip ?_
          refine T.blkN ?_
          refine T.thenN ?_
          exact T.back ⟨rs, _, rfl, rfl, rfl, rfl⟩ (by have := hpe.length_eq; simp at this; omega) (SubK.nil _) (.cons (t := 0) rfl <| .cons (t := 5) rfl <| .cons (t := 6) rfl <| .cons (t := 154) rfl <| SubK.nil _) qD qD qF
  · try simp only [decide_eq_true_eq, decide_eq_false_iff_not, Bool.not_eq_true', Bool.not_eq_false', Bool.and_eq_true, Bool.or_eq_true] at h42
    have hwf : ¬ (i < zn ∧ i < 60) := fun e => by have := hw.2 e; rw [h42] at this; cases this
    refine T.exit ?_
    refine T.thenX ?_
    refine T.thenX ?_
    refine T.blkX ?_
    refine T.thenN ?_
    refine T.seq ?_
    refine T.region ?_
    refine L.assign rfl rfl ?_
    refine L.nil ?_
    refine T.thenN ?_
    refine T.ret ?_
    exact T.ret1 rfl rfl ⟨rfl, rfl, rfl⟩ qD qF
end Cv
