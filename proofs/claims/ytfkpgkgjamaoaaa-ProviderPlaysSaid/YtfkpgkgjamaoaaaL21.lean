/-
  The walks: the walks of a table.
-/
import Derived.Test.YtfkpgkgjamaoaaaK21
import Derived.Test.YtfkpgkgjamaoaaaProg
import Derived.KernelRfl
set_option linter.unusedVariables false
set_option linter.unusedSimpArgs false
set_option linter.unusedSectionVars false
set_option maxRecDepth 10000
namespace Cv
open Go Go.Proofs
theorem zv57 : ∀ w, (zeroValue 57).run Try.prog w = .ok (Value.agg #[Value.map none]) w := fun w => by kernel_rfl
theorem bu57 : Bu Try.prog 57 [Value.map none] (fun (i : Nat) => ([(0, 1)] : List (Nat × Nat))[i]?) := bu_of Try.underlying57 zv57 rfl (fun w => by kernel_rfl)
theorem fo57_0 : Fo Try.prog 57 0 0 := fun a w => by kernel_rfl
theorem sc55 : Sc Try.prog 55 := fun w => ⟨by kernel_rfl, by kernel_rfl⟩
theorem ag28 : Ag Try.prog 28 32 := fun w => ⟨by kernel_rfl, by kernel_rfl⟩
set_option maxHeartbeats 400000 in
theorem pnew_spec   : Spec Try.prog 8 [] [] [] (fun v D' M' => ∃ (b tm : Nat), v = .pointer (some ⟨b, 0, none⟩) ∧ D' = [cl b 57 [.map (some tm)]] ∧ M' = [tbA tm []]) := by
  refine Spec.intro (n := 4) Try.func8 rfl rfl (by decide) (Nat.le_of_ble_eq_true rfl) rfl (fun _ => qA) (fun _ => qA) ?_
  intro σ D M
  refine T.seq ?_
  refine T.region ?_
  refine L.assign rfl rfl ?_
  refine L.nil ?_
  refine T.thenN ?_
  refine T.seq ?_
  refine T.region ?_
  refine L.makeMap aK rV2 rfl (fun tm => ?_)
  refine L.build rfl bu57 (BP.one rfl rfl rfl <| BP.doneE (out := []) rfl) ?_
  refine L.box rfl rfl rfl (fun b3 => ?_)
  refine L.assign rfl rfl ?_
  refine L.nil ?_
  refine T.freeze (A := cl b3 57 [.map (some tm)]) qP ?_
  refine T.emp ?_
  refine T.tbShut (t := []) (ml := []) rfl qS ?_
  refine T.thenN ?_
  refine T.ret ?_
  exact T.ret1 rfl rfl ⟨_, _, rfl, rfl, rfl⟩ qD qF
set_option maxHeartbeats 400000 in
theorem putN_spec {b tm : Nat} {ml : ML} {k : ID32} {a u : Int} (hl : look ml k = none) (hlen : ml.length ≤ 1000000) : Spec Try.prog 9 [.pointer (some ⟨b, 0, none⟩), .agg (k.1.map Y).toArray, .int .i64 a, .int .i64 u] [cl b 57 [.map (some tm)]] [mp tm aK rV2 ml, each rA2 ml] (fun v D' M' => v = .int .i64 (putE (er ml) k a) ∧ D' = [] ∧ M' = [tbA tm (putT (er ml) k a u)]) := by
  refine Spec.intro (n := 66) Try.func9 rfl rfl (by decide) (Nat.le_of_ble_eq_true rfl) rfl (fun _ => qA) (fun _ => qA) ?_
  intro σ D M
  refine T.seq ?_
  refine T.region ?_
  refine L.box rfl rfl rfl (fun b5 => ?_)
  refine L.assign rfl rfl ?_
  refine L.nil ?_
  refine T.freeze (A := cl b5 28 (k.1.map Y)) qP ?_
  refine T.thenN ?_
  refine T.seq ?_
  refine T.regionQ (by kernel_rfl) (by kernel_rfl) ?_
  refine L.move rfl rfl ?_
  refine L.nilCheck rfl rfl ?_
  first | refine L.field0 rfl fo57_0 rfl ?_ | refine L.field rfl fo57_0 rfl ?_
  refine L.load rfl sc55 rfl qC ?_
  refine L.loadA rfl ag28 rfl qN ?_
  refine L.lookup1 (kenc := aK) (venc := rV2) (l := ml) (k := k) rfl Try.underlying55 (keyT_arr Try.underlying28 Try.underlying5 sc5) zv32 rfl rfl qM ?_
  refine L.known (t := 17) (u := .map none) rfl (by rw [hl]; rfl) ?_
  refine L.assign rfl rfl ?_
  refine L.nilQ ?_
  refine T.thenN ?_
  refine T.seq ?_
  refine T.region ?_
  refine L.move rfl rfl ?_
  refine L.move rfl rfl ?_
  refine L.lookupNil (kenc := iK) (k := a) rfl Try.underlying32 kt3 zv3 rfl rfl ?_
  refine L.known (t := 21) (u := .tuple #[.int .i64 0, .bool false]) rfl rfl ?_
  refine L.move rfl rfl ?_
  refine L.extract rfl rfl rfl ?_
  refine L.extract rfl rfl rfl ?_
  refine L.assign rfl rfl ?_
  refine L.assign rfl rfl ?_
  refine L.nil ?_
  refine T.thenN ?_
  refine T.seq ?_
  refine T.block ?_
  refine T.seq ?_
  refine T.cutC (fun K' D' M' => ∃ (w : Bool), (w = true ↔ (a < 0 ∨ 64 ≤ a)) ∧ K' = [(24, .bool w)] ∧ D' = [] ∧ M' = []) (M0 := []) (.cons (t := 0) rfl <| .cons (t := 2) rfl <| .cons (t := 3) rfl <| .cons (t := 5) rfl <| .cons (t := 9) rfl <| .cons (t := 11) rfl <| SubK.nil _) qS ?_ ?_
  · skip
    rcases may64 a with hs | ⟨hs, hs2⟩ | ⟨hs, hs2⟩
    · skip
      refine T.region ?_
      refine L.move rfl rfl ?_
      refine L.ltI rfl rfl rfl ?_
      refine L.move rfl rfl ?_
      refine L.known (t := 27) rfl (show _ = Value.bool true from congrArg Value.bool (decide_eq_true hs)) ?_
      refine L.guardF (dj := 27) (c := true) rfl rfl rfl rfl rfl (by decide) ?_
      refine L.guardF (dj := 27) (c := true) rfl rfl rfl rfl rfl (by decide) ?_
      refine L.pickT rfl rfl rfl ?_
      refine L.assign rfl rfl ?_
      refine L.nil ?_
      refine T.thenN ?_
      exact T.toJoin ⟨_, ⟨fun _ => .inl hs, fun _ => rfl⟩, rfl, rfl, rfl⟩ (.cons (t := 24) rfl <| SubK.nil _) (.cons (t := 0) rfl <| .cons (t := 2) rfl <| .cons (t := 3) rfl <| .cons (t := 5) rfl <| .cons (t := 9) rfl <| .cons (t := 11) rfl <| SubK.nil _) qD qD qF
    · skip
      refine T.region ?_
      refine L.move rfl rfl ?_
      refine L.ltI rfl rfl rfl ?_
      refine L.move rfl rfl ?_
      refine L.known (t := 27) rfl (show _ = Value.bool false from congrArg Value.bool (decide_eq_false hs)) ?_
      refine L.guardT (dj := 27) rfl rfl rfl ?_
      refine L.move rfl rfl ?_
      refine L.guardT (dj := 27) rfl rfl rfl ?_
      refine L.geI rfl rfl rfl ?_
      refine L.pickF rfl rfl rfl ?_
      refine L.assign rfl rfl ?_
      refine L.nil ?_
      refine T.thenN ?_
      exact T.toJoin ⟨_, ⟨fun _ => .inr hs2, fun _ => decide_eq_true hs2⟩, rfl, rfl, rfl⟩ (.cons (t := 24) rfl <| SubK.nil _) (.cons (t := 0) rfl <| .cons (t := 2) rfl <| .cons (t := 3) rfl <| .cons (t := 5) rfl <| .cons (t := 9) rfl <| .cons (t := 11) rfl <| SubK.nil _) qD qD qF
    · skip
      refine T.region ?_
      refine L.move rfl rfl ?_
      refine L.ltI rfl rfl rfl ?_
      refine L.move rfl rfl ?_
      refine L.known (t := 27) rfl (show _ = Value.bool false from congrArg Value.bool (decide_eq_false hs)) ?_
      refine L.guardT (dj := 27) rfl rfl rfl ?_
      refine L.move rfl rfl ?_
      refine L.guardT (dj := 27) rfl rfl rfl ?_
      refine L.geI rfl rfl rfl ?_
      refine L.pickF rfl rfl rfl ?_
      refine L.assign rfl rfl ?_
      refine L.nil ?_
      refine T.thenN ?_
      exact T.toJoin ⟨_, ⟨fun h => absurd (of_decide_eq_true h) hs2, fun h => (h.elim hs (fun h => absurd h hs2)).elim⟩, rfl, rfl, rfl⟩ (.cons (t := 24) rfl <| SubK.nil _) (.cons (t := 0) rfl <| .cons (t := 2) rfl <| .cons (t := 3) rfl <| .cons (t := 5) rfl <| .cons (t := 9) rfl <| .cons (t := 11) rfl <| SubK.nil _) qD qD qF
  rintro _ _ _ ⟨w, hw, rfl, rfl, rfl⟩
  refine T.norm3 qA qA qA ?_
  refine T.thenN ?_
  refine T.cond rfl (fun h24 => ?_) (fun h24 => ?_)
  · try simp only [decide_eq_true_eq, decide_eq_false_iff_not, Bool.not_eq_true', Bool.not_eq_false', Bool.and_eq_true, Bool.or_eq_true] at h24
    have hbad := hw.1 h24
    obtain ⟨he, ht⟩ := putN10 (ml := ml) (k := k) (u := u) hbad
    rw [he, ht]
    refine T.tbShut rfl qS ?_
    refine T.seq ?_
    refine T.region ?_
    refine L.assign rfl rfl ?_
    refine L.nil ?_
    refine T.thenN ?_
    refine T.ret ?_
    refine T.blkR ?_
    refine T.thenR ?_
    exact T.ret1 rfl rfl ⟨rfl, rfl, rfl⟩ qD qF
  · try simp only [decide_eq_true_eq, decide_eq_false_iff_not, Bool.not_eq_true', Bool.not_eq_false', Bool.and_eq_true, Bool.or_eq_true] at h24
    have hok : ¬ (a < 0 ∨ 64 ≤ a) := fun e => by rw [hw.2 e] at h24; cases h24
    refine T.seq ?_
    refine T.seq ?_
    refine T.region ?_
    refine L.move rfl rfl ?_
    refine L.eqlMap rfl Try.underlying32 rfl rfl ?_
    refine L.move rfl rfl ?_
    refine L.known (t := 34) rfl (show _ = Value.bool true from rfl) ?_
    refine L.guardT (dj := 34) rfl rfl rfl ?_
    refine L.move rfl rfl ?_
    refine L.guardT (dj := 34) rfl rfl rfl ?_
    refine L.nilCheck rfl rfl ?_
    refine L.guardT (dj := 34) rfl rfl rfl ?_
    first | refine L.field0 rfl fo57_0 rfl ?_ | refine L.field rfl fo57_0 rfl ?_
    refine L.guardT (dj := 34) rfl rfl rfl ?_
    refine L.load rfl sc55 rfl qC ?_
    refine L.guardT (dj := 34) rfl rfl rfl ?_
    refine L.lenMap (l := ml) rfl Try.underlying55 rfl qM ?_
    refine L.guardT (dj := 34) rfl rfl rfl ?_
    refine L.geI rfl rfl rfl ?_
    refine L.pickT rfl rfl rfl ?_
    refine L.assign rfl rfl ?_
    refine L.nil ?_
    refine T.thenN ?_
    refine T.cond rfl (fun h31 => ?_) (fun h31 => ?_)
    · try simp only [decide_eq_true_eq, decide_eq_false_iff_not, Bool.not_eq_true', Bool.not_eq_false', Bool.and_eq_true, Bool.or_eq_true] at h31
      obtain ⟨he, ht⟩ := putN14 (u := u) hok hl (by omega)
      rw [he, ht]
      refine T.tbShut rfl qS ?_
      refine T.skip ?_
      refine T.thenN ?_
      refine T.condT rfl (decide_eq_true (by omega)) ?_
      refine T.seq ?_
      refine T.region ?_
      refine L.assign rfl rfl ?_
      refine L.nil ?_
      refine T.thenN ?_
      refine T.ret ?_
      refine T.blkR ?_
      refine T.thenR ?_
      exact T.ret1 rfl rfl ⟨rfl, rfl, rfl⟩ qD qF
    · try simp only [decide_eq_true_eq, decide_eq_false_iff_not, Bool.not_eq_true', Bool.not_eq_false', Bool.and_eq_true, Bool.or_eq_true] at h31
      obtain ⟨he, ht⟩ := putN0 (u := u) hok hl (by omega)
      rw [he, ht]
      refine T.region ?_
      refine L.move rfl rfl ?_
      refine L.notB rfl rfl ?_
      refine L.move rfl rfl ?_
      refine L.known (t := 44) rfl (show _ = Value.bool true from rfl) ?_
      refine L.guardT (dj := 44) rfl rfl rfl ?_
      refine L.move rfl rfl ?_
      refine L.guardT (dj := 44) rfl rfl rfl ?_
      refine L.lenNil rfl Try.underlying32 rfl ?_
      refine L.guardT (dj := 44) rfl rfl rfl ?_
      refine L.geI rfl rfl rfl ?_
      refine L.pickT rfl rfl rfl ?_
      refine L.assign rfl rfl ?_
      refine L.nil ?_
      refine T.thenN ?_
      refine T.condF rfl rfl ?_
      refine T.seq ?_
      refine T.region ?_
      refine L.move rfl rfl ?_
      refine L.eqlMap rfl Try.underlying32 rfl rfl ?_
      refine L.assign rfl rfl ?_
      refine L.nil ?_
      refine T.thenN ?_
      refine T.condT rfl rfl ?_
      refine T.seq ?_
      refine T.region ?_
      refine L.makeMap iK iK rfl (fun rb => ?_)
      refine L.assign rfl rfl ?_
      refine L.nil ?_
      refine T.thenN ?_
      refine T.regionA (clsL [1, 0, 1, 0, 0, 1, 2]) (by kernel_rfl) ?_
      refine A.takeP (i := 0) rfl rfl rfl rfl (by kernel_rfl) (by kernel_rfl) (by kernel_rfl) rfl qD ?_
      refine L.move rfl rfl ?_
      refine A.took ?_
      refine A.takeP (i := 5) rfl rfl rfl rfl (by kernel_rfl) (by kernel_rfl) (by kernel_rfl) rfl qD ?_
      refine L.move rfl rfl ?_
      refine A.took ?_
      refine A.nilCheck (i := 1) rfl rfl (by kernel_rfl) (by kernel_rfl) (by kernel_rfl) (by kernel_rfl) rfl qD qF rfl ?_
      refine A.takeP (i := 2) rfl rfl rfl rfl (by kernel_rfl) (by kernel_rfl) (by kernel_rfl) rfl qD ?_
      first | refine L.field0 rfl fo57_0 rfl ?_ | refine L.field rfl fo57_0 rfl ?_
      refine A.took ?_
      refine A.take (i := 3) rfl rfl rfl rfl (by kernel_rfl) (by kernel_rfl) (by kernel_rfl) (by kernel_rfl) rfl qD qF ?_
      refine L.load rfl sc55 rfl qC ?_
      refine A.took ?_
      refine A.take (i := 4) rfl rfl rfl rfl (by kernel_rfl) (by kernel_rfl) (by kernel_rfl) (by kernel_rfl) rfl qD qF ?_
      refine L.loadA rfl ag28 rfl qN ?_
      refine A.took ?_
      refine A.branch (is := [6]) (by kernel_rfl) (by decide) (Each.cons rfl ?_ <| Each.nil) 
      refine L.mapUpdate (kenc := aK) (venc := rV2) (l := ml) (k := k) (v := (rb, [])) Try.underlying55 (keyT_arr Try.underlying28 Try.underlying5 sc5) rfl rfl rfl rfl qP ?_
      refine A.backT rfl qD ?_
      refine A.done (by kernel_rfl) ?_
      refine T.blkN ?_
      refine T.thenN ?_
      refine T.seq ?_
      refine T.region ?_
      refine L.move rfl rfl ?_
      refine L.move rfl rfl ?_
      refine L.move rfl rfl ?_
      refine L.move rfl rfl ?_
      refine L.lookup1 (kenc := iK) (venc := iK) (b := rb) (l := []) (k := a) rfl Try.underlying32 kt3 zv3 rfl rfl qM ?_
      refine L.known (t := 63) (u := .int .i64 0) rfl rfl ?_
      refine L.move rfl rfl ?_
      refine L.maxI rfl rfl rfl ?_
      refine L.mapUpdate (kenc := iK) (venc := iK) (b := rb) (l := []) (k := a) (v := max 0 u) Try.underlying32 kt3 rfl rfl rfl rfl qP ?_
      refine L.nil ?_
      refine T.thenN ?_
      refine T.seq ?_
      refine T.region ?_
      refine L.assign rfl rfl ?_
      refine L.nil ?_
      refine T.thenN ?_
      refine T.ret ?_
      refine T.rowNew (row := []) (put [] a (max 0 u)) rfl hl qS ?_
      exact T.ret1 rfl rfl ⟨rfl, rfl, rfl⟩ qD qF
set_option maxHeartbeats 400000 in
theorem putS_spec {b tm : Nat} {ml : ML} {k : ID32} {rb : Nat} {row : Row21} {a u : Int} (hl : look ml k = some (rb, row)) (hlen : row.length ≤ 1000000) : Spec Try.prog 9 [.pointer (some ⟨b, 0, none⟩), .agg (k.1.map Y).toArray, .int .i64 a, .int .i64 u] [cl b 57 [.map (some tm)]] [mp tm aK rV2 ml, each rA2 ml] (fun v D' M' => v = .int .i64 (putE (er ml) k a) ∧ D' = [] ∧ M' = [tbA tm (putT (er ml) k a u)]) := by
  refine Spec.intro (n := 66) Try.func9 rfl rfl (by decide) (Nat.le_of_ble_eq_true rfl) rfl (fun _ => qA) (fun _ => qA) ?_
  intro σ D M
  refine T.rowOpen hl qP ?_
  refine T.seq ?_
  refine T.region ?_
  refine L.box rfl rfl rfl (fun b5 => ?_)
  refine L.assign rfl rfl ?_
  refine L.nil ?_
  refine T.freeze (A := cl b5 28 (k.1.map Y)) qP ?_
  refine T.thenN ?_
  refine T.seq ?_
  refine T.regionQ (by kernel_rfl) (by kernel_rfl) ?_
  refine L.move rfl rfl ?_
  refine L.nilCheck rfl rfl ?_
  first | refine L.field0 rfl fo57_0 rfl ?_ | refine L.field rfl fo57_0 rfl ?_
  refine L.load rfl sc55 rfl qC ?_
  refine L.loadA rfl ag28 rfl qN ?_
  refine L.lookup1 (kenc := aK) (venc := rV2) (l := ml) (k := k) rfl Try.underlying55 (keyT_arr Try.underlying28 Try.underlying5 sc5) zv32 rfl rfl qM ?_
  refine L.known (t := 17) (u := .map (some rb)) rfl (by rw [hl]; rfl) ?_
  refine L.assign rfl rfl ?_
  refine L.nilQ ?_
  refine T.thenN ?_
  refine T.seq ?_
  refine T.region ?_
  refine L.move rfl rfl ?_
  refine L.move rfl rfl ?_
  refine L.lookup2 (kenc := iK) (venc := iK) (l := row) (k := a) rfl Try.underlying32 kt3 zv3 rfl rfl qM ?_
  refine L.known (t := 21) (u := .tuple #[.int .i64 ((look row a).getD 0), .bool (look row a).isSome]) rfl (by cases look row a <;> rfl) ?_
  refine L.move rfl rfl ?_
  refine L.extract rfl rfl rfl ?_
  refine L.extract rfl rfl rfl ?_
  refine L.assign rfl rfl ?_
  refine L.assign rfl rfl ?_
  refine L.nil ?_
  refine T.thenN ?_
  refine T.seq ?_
  refine T.block ?_
  refine T.seq ?_
  refine T.cutC (fun K' D' M' => ∃ (w : Bool), (w = true ↔ (a < 0 ∨ 64 ≤ a)) ∧ K' = [(24, .bool w)] ∧ D' = [] ∧ M' = []) (M0 := []) (.cons (t := 0) rfl <| .cons (t := 2) rfl <| .cons (t := 3) rfl <| .cons (t := 5) rfl <| .cons (t := 9) rfl <| .cons (t := 11) rfl <| SubK.nil _) qS ?_ ?_
  · skip
    rcases may64 a with hs | ⟨hs, hs2⟩ | ⟨hs, hs2⟩
    · skip
      refine T.region ?_
      refine L.move rfl rfl ?_
      refine L.ltI rfl rfl rfl ?_
      refine L.move rfl rfl ?_
      refine L.known (t := 27) rfl (show _ = Value.bool true from congrArg Value.bool (decide_eq_true hs)) ?_
      refine L.guardF (dj := 27) (c := true) rfl rfl rfl rfl rfl (by decide) ?_
      refine L.guardF (dj := 27) (c := true) rfl rfl rfl rfl rfl (by decide) ?_
      refine L.pickT rfl rfl rfl ?_
      refine L.assign rfl rfl ?_
      refine L.nil ?_
      refine T.thenN ?_
      exact T.toJoin ⟨_, ⟨fun _ => .inl hs, fun _ => rfl⟩, rfl, rfl, rfl⟩ (.cons (t := 24) rfl <| SubK.nil _) (.cons (t := 0) rfl <| .cons (t := 2) rfl <| .cons (t := 3) rfl <| .cons (t := 5) rfl <| .cons (t := 9) rfl <| .cons (t := 11) rfl <| SubK.nil _) qD qD qF
    · skip
      refine T.region ?_
      refine L.move rfl rfl ?_
      refine L.ltI rfl rfl rfl ?_
      refine L.move rfl rfl ?_
      refine L.known (t := 27) rfl (show _ = Value.bool false from congrArg Value.bool (decide_eq_false hs)) ?_
      refine L.guardT (dj := 27) rfl rfl rfl ?_
      refine L.move rfl rfl ?_
      refine L.guardT (dj := 27) rfl rfl rfl ?_
      refine L.geI rfl rfl rfl ?_
      refine L.pickF rfl rfl rfl ?_
      refine L.assign rfl rfl ?_
      refine L.nil ?_
      refine T.thenN ?_
      exact T.toJoin ⟨_, ⟨fun _ => .inr hs2, fun _ => decide_eq_true hs2⟩, rfl, rfl, rfl⟩ (.cons (t := 24) rfl <| SubK.nil _) (.cons (t := 0) rfl <| .cons (t := 2) rfl <| .cons (t := 3) rfl <| .cons (t := 5) rfl <| .cons (t := 9) rfl <| .cons (t := 11) rfl <| SubK.nil _) qD qD qF
    · skip
      refine T.region ?_
      refine L.move rfl rfl ?_
      refine L.ltI rfl rfl rfl ?_
      refine L.move rfl rfl ?_
      refine L.known (t := 27) rfl (show _ = Value.bool false from congrArg Value.bool (decide_eq_false hs)) ?_
      refine L.guardT (dj := 27) rfl rfl rfl ?_
      refine L.move rfl rfl ?_
      refine L.guardT (dj := 27) rfl rfl rfl ?_
      refine L.geI rfl rfl rfl ?_
      refine L.pickF rfl rfl rfl ?_
      refine L.assign rfl rfl ?_
      refine L.nil ?_
      refine T.thenN ?_
      exact T.toJoin ⟨_, ⟨fun h => absurd (of_decide_eq_true h) hs2, fun h => (h.elim hs (fun h => absurd h hs2)).elim⟩, rfl, rfl, rfl⟩ (.cons (t := 24) rfl <| SubK.nil _) (.cons (t := 0) rfl <| .cons (t := 2) rfl <| .cons (t := 3) rfl <| .cons (t := 5) rfl <| .cons (t := 9) rfl <| .cons (t := 11) rfl <| SubK.nil _) qD qD qF
  rintro _ _ _ ⟨w, hw, rfl, rfl, rfl⟩
  refine T.norm3 qA qA qA ?_
  refine T.thenN ?_
  refine T.cond rfl (fun h24 => ?_) (fun h24 => ?_)
  · try simp only [decide_eq_true_eq, decide_eq_false_iff_not, Bool.not_eq_true', Bool.not_eq_false', Bool.and_eq_true, Bool.or_eq_true] at h24
    have hbad := hw.1 h24
    obtain ⟨he, ht⟩ := putN10 (ml := ml) (k := k) (u := u) hbad
    rw [he, ht]
    refine T.rowBack rfl hl qS ?_
    refine T.seq ?_
    refine T.region ?_
    refine L.assign rfl rfl ?_
    refine L.nil ?_
    refine T.thenN ?_
    refine T.ret ?_
    refine T.blkR ?_
    refine T.thenR ?_
    exact T.ret1 rfl rfl ⟨rfl, rfl, rfl⟩ qD qF
  · try simp only [decide_eq_true_eq, decide_eq_false_iff_not, Bool.not_eq_true', Bool.not_eq_false', Bool.and_eq_true, Bool.or_eq_true] at h24
    have hok : ¬ (a < 0 ∨ 64 ≤ a) := fun e => by rw [hw.2 e] at h24; cases h24
    refine T.seq ?_
    refine T.seq ?_
    refine T.region ?_
    refine L.move rfl rfl ?_
    refine L.eqlMap rfl Try.underlying32 rfl rfl ?_
    refine L.move rfl rfl ?_
    refine L.known (t := 34) rfl (show _ = Value.bool false from rfl) ?_
    refine L.guardF (dj := 34) (c := false) rfl rfl rfl rfl rfl (by decide) ?_
    refine L.guardF (dj := 34) (c := false) rfl rfl rfl rfl rfl (by decide) ?_
    refine L.guardF (dj := 34) (c := false) rfl rfl rfl rfl rfl (by decide) ?_
    refine L.guardF (dj := 34) (c := false) rfl rfl rfl rfl rfl (by decide) ?_
    refine L.guardF (dj := 34) (c := false) rfl rfl rfl rfl rfl (by decide) ?_
    refine L.guardF (dj := 34) (c := false) rfl rfl rfl rfl rfl (by decide) ?_
    refine L.pickF rfl rfl rfl ?_
    refine L.assign rfl rfl ?_
    refine L.nil ?_
    refine T.thenN ?_
    refine T.condF rfl rfl ?_
    refine T.cutC (fun K' D' M' => ∃ (w : Bool), (w = true ↔ (look row a = none ∧ 8 ≤ row.length)) ∧ K' = [(31, .bool w)] ∧ D' = [] ∧ M' = []) (M0 := []) (.cons (t := 0) rfl <| .cons (t := 2) rfl <| .cons (t := 3) rfl <| .cons (t := 5) rfl <| .cons (t := 9) rfl <| SubK.nil _) qS ?_ ?_
    · skip
      rcases hs : look row a with _ | v
      · skip
        refine T.region ?_
        refine L.move rfl rfl ?_
        refine L.notB rfl rfl ?_
        refine L.move rfl rfl ?_
        refine L.known (t := 44) rfl (show _ = Value.bool true from rfl) ?_
        refine L.guardT (dj := 44) rfl rfl rfl ?_
        refine L.move rfl rfl ?_
        refine L.guardT (dj := 44) rfl rfl rfl ?_
        refine L.lenMap (l := row) rfl Try.underlying32 rfl qM ?_
        refine L.guardT (dj := 44) rfl rfl rfl ?_
        refine L.geI rfl rfl rfl ?_
        refine L.pickT rfl rfl rfl ?_
        refine L.assign rfl rfl ?_
        refine L.nil ?_
        refine T.thenN ?_
        exact T.toJoin ⟨_, (by rw [decide_eq_true_eq]; exact ⟨fun h => ⟨rfl, by omega⟩, fun h => by omega⟩), rfl, rfl, rfl⟩ (.cons (t := 31) rfl <| SubK.nil _) (.cons (t := 0) rfl <| .cons (t := 2) rfl <| .cons (t := 3) rfl <| .cons (t := 5) rfl <| .cons (t := 9) rfl <| SubK.nil _) qD qD qF
      · skip
        refine T.region ?_
        refine L.move rfl rfl ?_
        refine L.notB rfl rfl ?_
        refine L.move rfl rfl ?_
        refine L.known (t := 44) rfl (show _ = Value.bool false from rfl) ?_
        refine L.guardF (dj := 44) (c := false) rfl rfl rfl rfl rfl (by decide) ?_
        refine L.guardF (dj := 44) (c := false) rfl rfl rfl rfl rfl (by decide) ?_
        refine L.guardF (dj := 44) (c := false) rfl rfl rfl rfl rfl (by decide) ?_
        refine L.pickF rfl rfl rfl ?_
        refine L.assign rfl rfl ?_
        refine L.nil ?_
        refine T.thenN ?_
        exact T.toJoin ⟨_, ⟨(fun h => by cases h), (fun h => by cases h.1)⟩, rfl, rfl, rfl⟩ (.cons (t := 31) rfl <| SubK.nil _) (.cons (t := 0) rfl <| .cons (t := 2) rfl <| .cons (t := 3) rfl <| .cons (t := 5) rfl <| .cons (t := 9) rfl <| SubK.nil _) qD qD qF
    rintro _ _ _ ⟨w, hw6, rfl, rfl, rfl⟩
    refine T.norm3 qA qA qA ?_
    refine T.thenN ?_
    refine T.cond rfl (fun h31 => ?_) (fun h31 => ?_)
    · try simp only [decide_eq_true_eq, decide_eq_false_iff_not, Bool.not_eq_true', Bool.not_eq_false', Bool.and_eq_true, Bool.or_eq_true] at h31
      obtain ⟨he, ht⟩ := putS14 (u := u) hok hl (hw6.1 h31)
      rw [he, ht]
      refine T.rowBack rfl hl qS ?_
      refine T.seq ?_
      refine T.region ?_
      refine L.assign rfl rfl ?_
      refine L.nil ?_
      refine T.thenN ?_
      refine T.ret ?_
      refine T.blkR ?_
      refine T.thenR ?_
      exact T.ret1 rfl rfl ⟨rfl, rfl, rfl⟩ qD qF
    · try simp only [decide_eq_true_eq, decide_eq_false_iff_not, Bool.not_eq_true', Bool.not_eq_false', Bool.and_eq_true, Bool.or_eq_true] at h31
      obtain ⟨he, ht⟩ := putS0 (u := u) hok hl (fun e => by rw [hw6.2 e] at h31; cases h31)
      rw [he, ht]
      refine T.seq ?_
      refine T.region ?_
      refine L.move rfl rfl ?_
      refine L.eqlMap rfl Try.underlying32 rfl rfl ?_
      refine L.assign rfl rfl ?_
      refine L.nil ?_
      refine T.thenN ?_
      refine T.condF rfl rfl ?_
      refine T.skip ?_
      refine T.blkN ?_
      refine T.thenN ?_
      refine T.seq ?_
      refine T.region ?_
      refine L.move rfl rfl ?_
      refine L.move rfl rfl ?_
      refine L.move rfl rfl ?_
      refine L.move rfl rfl ?_
      refine L.lookup1 (kenc := iK) (venc := iK) (b := rb) (l := row) (k := a) rfl Try.underlying32 kt3 zv3 rfl rfl qM ?_
      refine L.known (t := 63) (u := .int .i64 ((look row a).getD 0)) rfl (by cases look row a <;> rfl) ?_
      refine L.move rfl rfl ?_
      refine L.maxI rfl rfl rfl ?_
      refine L.mapUpdate (kenc := iK) (venc := iK) (b := rb) (l := row) (k := a) (v := max ((look row a).getD 0) u) Try.underlying32 kt3 rfl rfl rfl rfl qP ?_
      refine L.nil ?_
      refine T.thenN ?_
      refine T.seq ?_
      refine T.region ?_
      refine L.assign rfl rfl ?_
      refine L.nil ?_
      refine T.thenN ?_
      refine T.ret ?_
      refine T.rowPut (putR row a u) rfl hl qS ?_
      exact T.ret1 rfl rfl ⟨rfl, rfl, rfl⟩ qD qF
theorem put_spec {b tm : Nat} {t : Tb} {k : ID32} {a u : Int} (h1 : t.length ≤ 1000000) (h2 : ∀ row, look t k = some row → row.length ≤ 1000000) : Spec Try.prog 9 [.pointer (some ⟨b, 0, none⟩), .agg (k.1.map Y).toArray, .int .i64 a, .int .i64 u] [cl b 57 [.map (some tm)]] [tbA tm t] (fun v D' M' => v = .int .i64 (putE t k a) ∧ D' = [] ∧ M' = [tbA tm (putT t k a u)]) :=
  Spec.tb (IsFn.of Try.func9 rfl (by decide)) fun ml hm => by
    subst hm
    rcases hl : look ml k with _ | ⟨rb, row⟩
    · exact putN_spec hl (by rw [er_len] at h1; exact h1)
    · exact putS_spec hl (h2 row (by rw [look_er, hl]; rfl))
end Cv
