/-
  The reference of the table: the walks of Heard, Gone and All.
-/
import Derived.Test.YtlbhafbggelgkaaR19b
import Derived.Test.YtlbhafbggelgkaaProg
import Derived.KernelRfl
set_option maxRecDepth 10000
set_option linter.unusedSimpArgs false
set_option linter.unusedVariables false
namespace Cv
open Go Go.Proofs
theorem bu96 : Bu Try.prog 96 [Value.int .i64 0, Value.int .i64 0, Value.bool false] (fun (i : Nat) => ([(0, 1), (1, 1), (2, 1)] : List (Nat × Nat))[i]?) := bu_of Try.underlying96 zv96 rfl (fun w => by kernel_rfl)
set_option maxHeartbeats 1000000 in
theorem rheard_spec {a : Option Addr} {len cap : Nat} {o : Int} {tb : List One} {n : Int} (hb : tb.length ≤ 1000) : Spec Try.prog 43 [.agg [.int .i64 o, .slice a len cap].toArray, .int .i64 n] [rsl 3 a len cap ((tb).map orow)] [] (fun v D' M' => ∃ (a1 : Option Addr) (c1 : Nat), v = .tuple #[.agg [.int .i64 o, .slice a1 (hRef o tb n).1.length c1].toArray, .int .i64 (hRef o tb n).2] ∧ D' = [rsl 3 a1 (hRef o tb n).1.length c1 (((hRef o tb n).1).map orow)] ∧ M' = []) := by
  refine Spec.intro (n := 95) Try.func43 rfl rfl (by decide) (Nat.le_of_ble_eq_true rfl) rfl (fun _ => qA) (fun _ => qA) ?_
  intro σ D M
  refine T.rslLen2 (rows := tb.map orow) qM (fun hl hcp => ?_)
  rw [List.length_map] at hl
  subst hl
  refine T.seq ?_
  refine T.region ?_
  refine L.box rfl rfl rfl (fun b2 => ?_)
  refine L.alloc rfl ze47 (fun b4 => ?_)
  refine L.assign rfl rfl ?_
  refine L.nil ?_
  refine T.thenN ?_
  refine T.seq ?_
  refine T.seq ?_
  refine T.cutC (fun K' D' M' => ∃ (w : Bool), (w = true ↔ Bad o n) ∧ K' = [(19, .bool w)] ∧ D' = [] ∧ M' = []) (M0 := []) (.cons (t := 1) rfl <| .cons (t := 2) rfl <| .cons (t := 4) rfl <| SubK.nil _) qS ?_ ?_
  · skip
    refine T.region ?_
    refine L.move rfl rfl ?_
    first | refine L.field0 rfl fo47_0 rfl ?_ | refine L.field rfl fo47_0 rfl ?_
    refine L.load rfl sc3 rfl qC ?_
    refine L.eqI rfl rfl rfl ?_
    refine L.move rfl rfl ?_
    refine L.part (t := 12) rfl (fun h1 => ?_) (fun h1 => ?_)
    · try simp only [decide_eq_true_eq, decide_eq_false_iff_not, Bool.not_eq_true', Bool.not_eq_false', Bool.and_eq_true, Bool.or_eq_true] at h1
      refine L.guardF (dj := 12) (c := true) rfl rfl rfl rfl rfl (by decide) ?_
      refine L.guardF (dj := 12) (c := true) rfl rfl rfl rfl rfl (by decide) ?_
      refine L.pickT rfl rfl rfl ?_
      refine L.move rfl rfl ?_
      refine L.guardF (dj := 16) (c := true) rfl rfl rfl rfl rfl (by decide) ?_
      refine L.guardF (dj := 16) (c := true) rfl rfl rfl rfl rfl (by decide) ?_
      refine L.pickT rfl rfl rfl ?_
      refine L.nil ?_
      refine T.thenN ?_
      exact T.toJoin ⟨_, (by unfold Bad; simp <;> omega), rfl, rfl, rfl⟩ (.cons (t := 19) rfl <| SubK.nil _) (.cons (t := 1) rfl <| .cons (t := 2) rfl <| .cons (t := 4) rfl <| SubK.nil _) qD qD qF
    · try simp only [decide_eq_true_eq, decide_eq_false_iff_not, Bool.not_eq_true', Bool.not_eq_false', Bool.and_eq_true, Bool.or_eq_true] at h1
      refine L.guardT (dj := 12) rfl rfl rfl ?_
      refine L.move rfl rfl ?_
      refine L.guardT (dj := 12) rfl rfl rfl ?_
      refine L.ltI rfl rfl rfl ?_
      refine L.pickF rfl rfl rfl ?_
      refine L.move rfl rfl ?_
      refine L.part (t := 16) rfl (fun h2 => ?_) (fun h2 => ?_)
      · try simp only [decide_eq_true_eq, decide_eq_false_iff_not, Bool.not_eq_true', Bool.not_eq_false', Bool.and_eq_true, Bool.or_eq_true] at h2
        refine L.guardF (dj := 16) (c := true) rfl rfl rfl rfl rfl (by decide) ?_
        refine L.guardF (dj := 16) (c := true) rfl rfl rfl rfl rfl (by decide) ?_
        refine L.pickT rfl rfl rfl ?_
        refine L.nil ?_
        refine T.thenN ?_
        exact T.toJoin ⟨_, (by unfold Bad; simp <;> omega), rfl, rfl, rfl⟩ (.cons (t := 19) rfl <| SubK.nil _) (.cons (t := 1) rfl <| .cons (t := 2) rfl <| .cons (t := 4) rfl <| SubK.nil _) qD qD qF
      · try simp only [decide_eq_true_eq, decide_eq_false_iff_not, Bool.not_eq_true', Bool.not_eq_false', Bool.and_eq_true, Bool.or_eq_true] at h2
        refine L.guardT (dj := 16) rfl rfl rfl ?_
        refine L.move rfl rfl ?_
        refine L.guardT (dj := 16) rfl rfl rfl ?_
        refine L.geI rfl rfl rfl ?_
        refine L.pickF rfl rfl rfl ?_
        refine L.nil ?_
        refine T.thenN ?_
        exact T.toJoin ⟨_, (by unfold Bad; simp <;> omega), rfl, rfl, rfl⟩ (.cons (t := 19) rfl <| SubK.nil _) (.cons (t := 1) rfl <| .cons (t := 2) rfl <| .cons (t := 4) rfl <| SubK.nil _) qD qD qF
  rintro _ _ _ ⟨w, hw, rfl, rfl, rfl⟩
  refine T.norm3 qA qA qA ?_
  refine T.thenN ?_
  refine T.cond rfl (fun h19 => ?_) (fun h19 => ?_)
  · try simp only [decide_eq_true_eq, decide_eq_false_iff_not, Bool.not_eq_true', Bool.not_eq_false', Bool.and_eq_true, Bool.or_eq_true] at h19
    have hbad := hw.1 h19
    have hR : hRef o tb n = (tb, -1) := by rw [hRef, if_pos hbad]
    refine T.seq ?_
    refine T.region ?_
    refine L.loadA rfl ag47 rfl qN ?_
    refine L.storeA ag47 rfl rfl qL qO qU qW ?_
    refine L.assign rfl rfl ?_
    refine L.nil ?_
    refine T.thenN ?_
    refine T.ret ?_
    refine T.thenR ?_
    rw [hR]
    exact T.retAT rfl ag47 rfl qN rfl ⟨_, _, rfl, rfl, rfl⟩ qD qF
  · try simp only [decide_eq_true_eq, decide_eq_false_iff_not, Bool.not_eq_true', Bool.not_eq_false', Bool.and_eq_true, Bool.or_eq_true] at h19
    have hbad : ¬ Bad o n := fun e => by have := hw.2 e; rw [h19] at this; cases this
    refine T.skip ?_
    refine T.thenN ?_
    refine T.seq ?_
    refine T.region ?_
    refine L.loadA rfl ag47 rfl qN ?_
    refine L.move rfl rfl ?_
    refine L.callF rfl (evs.cons rfl <| evs.cons rfl <| evs.nil) qD qS (rrow_spec) (by rintro u D1 M1 ⟨rfl, rfl, rfl⟩; exact ⟨rfl, _, qA, qF⟩) ?_
    refine L.assign rfl rfl ?_
    refine L.nil ?_
    refine T.thenN ?_
    refine T.seq ?_
    refine T.region ?_
    refine L.loadA rfl ag47 rfl qN ?_
    refine L.move rfl rfl ?_
    refine L.callF rfl (evs.cons rfl <| evs.cons rfl <| evs.cons rfl <| evs.nil) qD qS (find_spec (tb := tb) (n := n) (w := false) (by omega)) (by rintro u D1 M1 ⟨rfl, rfl, rfl⟩; exact ⟨rfl, _, qA, qF⟩) ?_
    refine L.assign rfl rfl ?_
    refine L.nil ?_
    refine T.thenN ?_
    refine T.seq ?_
    refine T.seq ?_
    refine T.region ?_
    refine L.move rfl rfl ?_
    refine L.geI rfl rfl rfl ?_
    refine L.nil ?_
    refine T.thenN ?_
    refine T.cond rfl (fun h28 => ?_) (fun h28 => ?_)
    · try simp only [decide_eq_true_eq, decide_eq_false_iff_not, Bool.not_eq_true', Bool.not_eq_false', Bool.and_eq_true, Bool.or_eq_true] at h28
      refine T.seq ?_
      refine T.seq ?_
      refine T.cutC (fun K' D' M' => ∃ (w : Bool), (w = true ↔ ((firstF tb (rowF o n) false) = n ∧ 0 ≤ (firstF tb (rowF o n) true))) ∧ K' = [(39, .bool w)] ∧ D' = [] ∧ M' = []) (M0 := []) (.cons (t := 1) rfl <| .cons (t := 2) rfl <| .cons (t := 4) rfl <| .cons (t := 6) rfl <| SubK.nil _) qS ?_ ?_
      · skip
        refine T.region ?_
        refine L.loadA rfl ag47 rfl qN ?_
        refine L.move rfl rfl ?_
        refine L.callF rfl (evs.cons rfl <| evs.cons rfl <| evs.cons rfl <| evs.nil) qD qS (first_spec (tb := tb) (n := (rowF o n)) (w := false) (by omega)) (by rintro u D1 M1 ⟨rfl, rfl, rfl⟩; exact ⟨rfl, _, qA, qF⟩) ?_
        refine L.move rfl rfl ?_
        refine L.eqI rfl rfl rfl ?_
        refine L.move rfl rfl ?_
        refine L.part (t := 34) rfl (fun h3 => ?_) (fun h3 => ?_)
        · try simp only [decide_eq_true_eq, decide_eq_false_iff_not, Bool.not_eq_true', Bool.not_eq_false', Bool.and_eq_true, Bool.or_eq_true] at h3
          refine L.guardT (dj := 34) rfl rfl rfl ?_
          refine L.loadA rfl ag47 rfl qN ?_
          refine L.guardT (dj := 34) rfl rfl rfl ?_
          refine L.move rfl rfl ?_
          refine L.guardT (dj := 34) rfl rfl rfl ?_
          refine L.callF rfl (evs.cons rfl <| evs.cons rfl <| evs.cons rfl <| evs.nil) qD qS (first_spec (tb := tb) (n := (rowF o n)) (w := true) (by omega)) (by rintro u D1 M1 ⟨rfl, rfl, rfl⟩; exact ⟨rfl, _, qA, qF⟩) ?_
          refine L.guardT (dj := 34) rfl rfl rfl ?_
          refine L.geI rfl rfl rfl ?_
          refine L.pickT rfl rfl rfl ?_
          refine L.nil ?_
          refine T.thenN ?_
          exact T.toJoin ⟨_, (by simp <;> omega), rfl, rfl, rfl⟩ (.cons (t := 39) rfl <| SubK.nil _) (.cons (t := 1) rfl <| .cons (t := 2) rfl <| .cons (t := 4) rfl <| .cons (t := 6) rfl <| SubK.nil _) qD qD qF
        · try simp only [decide_eq_true_eq, decide_eq_false_iff_not, Bool.not_eq_true', Bool.not_eq_false', Bool.and_eq_true, Bool.or_eq_true] at h3
          refine L.guardF (dj := 34) (c := false) rfl rfl rfl rfl rfl (by decide) ?_
          refine L.guardF (dj := 34) (c := false) rfl rfl rfl rfl rfl (by decide) ?_
          refine L.guardF (dj := 34) (c := false) rfl rfl rfl rfl rfl (by decide) ?_
          refine L.guardF (dj := 34) (c := false) rfl rfl rfl rfl rfl (by decide) ?_
          refine L.pickF rfl rfl rfl ?_
          refine L.nil ?_
          refine T.thenN ?_
          exact T.toJoin ⟨_, (by simp <;> omega), rfl, rfl, rfl⟩ (.cons (t := 39) rfl <| SubK.nil _) (.cons (t := 1) rfl <| .cons (t := 2) rfl <| .cons (t := 4) rfl <| .cons (t := 6) rfl <| SubK.nil _) qD qD qF
      rintro _ _ _ ⟨w, hw6, rfl, rfl, rfl⟩
      refine T.norm3 qA qA qA ?_
      refine T.thenN ?_
      refine T.cutC (fun K' D' M' => ∃ (t2 : List One) (a2 : Option Addr) (c2 : Nat), (t2 = (if (firstF tb (rowF o n) false) = n ∧ 0 ≤ (firstF tb (rowF o n) true) then tb.eraseIdx (findF tb (firstF tb (rowF o n) true) true).toNat else tb) ∧ 0 ≤ findF t2 n false ∧ t2.length ≤ 1000) ∧ K' = [] ∧ D' = [rsl 3 a2 t2.length c2 ((t2).map orow)] ∧ M' = [cl b2 47 [.int .i64 o, .slice a2 t2.length c2]]) (M0 := [cl b2 47 [.int .i64 o, .slice a tb.length cap]]) (.cons (t := 1) rfl <| .cons (t := 2) rfl <| .cons (t := 4) rfl <| .cons (t := 6) rfl <| SubK.nil _) qS ?_ ?_
      · skip
        refine T.cond rfl (fun h39 => ?_) (fun h39 => ?_)
        · try simp only [decide_eq_true_eq, decide_eq_false_iff_not, Bool.not_eq_true', Bool.not_eq_false', Bool.and_eq_true, Bool.or_eq_true] at h39
          have hc6 := hw6.1 h39
          have hf1 := first_found hc6.2
          obtain ⟨wi, hwi⟩ := nat_of hf1
          have hwil := find_lt hwi
          refine T.regionA (clsL [0, 0, 0, 1, 0, 0, 2, 2]) (by kernel_rfl) ?_
          refine A.takeP (i := 3) rfl rfl rfl rfl (by kernel_rfl) (by kernel_rfl) (by kernel_rfl) rfl ?_
          refine L.move rfl rfl ?_
          refine A.took ?_
          refine A.take (i := 0) rfl rfl rfl rfl (by kernel_rfl) (by kernel_rfl) (by kernel_rfl) (by kernel_rfl) rfl qD qF ?_
          refine L.loadA rfl ag47 rfl qN ?_
          refine A.took ?_
          refine A.take (i := 1) rfl rfl rfl rfl (by kernel_rfl) (by kernel_rfl) (by kernel_rfl) (by kernel_rfl) rfl qD qF ?_
          refine L.loadA rfl ag47 rfl qN ?_
          refine A.took ?_
          refine A.take (i := 2) rfl rfl rfl rfl (by kernel_rfl) (by kernel_rfl) (by kernel_rfl) (by kernel_rfl) rfl qD qF ?_
          refine L.loadA rfl ag47 rfl qN ?_
          refine A.took ?_
          refine A.branch (is := [4]) (by kernel_rfl) (by decide) (Each.cons rfl ?_ <| Each.nil) 
          refine L.callF rfl (evs.cons rfl <| evs.cons rfl <| evs.cons rfl <| evs.nil) qD qS (first_spec (tb := tb) (n := (rowF o n)) (w := true) (by omega)) (by rintro u D1 M1 ⟨rfl, rfl, rfl⟩; exact ⟨rfl, _, qA, qF⟩) ?_
          refine A.back rfl qD qF ?_
          refine A.branch (is := [5]) (by kernel_rfl) (by decide) (Each.cons rfl ?_ <| Each.nil) 
          refine L.callF rfl (evs.cons rfl <| evs.cons rfl <| evs.cons rfl <| evs.nil) qD qS (find_spec (tb := tb) (n := (firstF tb (rowF o n) true)) (w := true) (by omega)) (by rintro u D1 M1 ⟨rfl, rfl, rfl⟩; exact ⟨rfl, _, qA, qF⟩) ?_
          rw [hwi]
          refine A.back rfl qD qF ?_
          refine A.branch (is := [6]) (by kernel_rfl) (by decide) (Each.cons rfl ?_ <| Each.nil) 
          refine L.call rfl (evs.cons rfl <| evs.cons rfl <| evs.nil) qD qS (without_spec (tb := tb) (i := wi) (by omega) (by omega)) ?_
          rintro _ _ _ ⟨wa, wc, rfl, rfl, rfl⟩
          refine L.norm qA qA ?_
          refine A.backT rfl ?_
          refine A.branch (is := [7]) (by kernel_rfl) (by decide) (Each.cons rfl ?_ <| Each.nil) 
          refine L.storeA ag47 rfl rfl qL qO qU qW ?_
          refine A.backT rfl ?_
          refine A.done (by kernel_rfl) ?_
          refine T.ownRsl qP ?_
          refine T.thenN ?_
          exact T.toJoin ⟨tb.eraseIdx wi, _, _, ⟨by rw [if_pos hc6]; first | rfl | (rw [hwi]; rfl), by have := found_erase h28 hf1; rwa [hwi] at this, Nat.le_trans (List.length_eraseIdx_le _ _) hb⟩, rfl, rfl, rfl⟩ (SubK.nil _) (.cons (t := 1) rfl <| .cons (t := 2) rfl <| .cons (t := 4) rfl <| .cons (t := 6) rfl <| SubK.nil _) qD qD qF
        · try simp only [decide_eq_true_eq, decide_eq_false_iff_not, Bool.not_eq_true', Bool.not_eq_false', Bool.and_eq_true, Bool.or_eq_true] at h39
          have hc6 : ¬ ((firstF tb (rowF o n) false) = n ∧ 0 ≤ (firstF tb (rowF o n) true)) := fun e => by have := hw6.2 e; rw [h39] at this; cases this
          refine T.skip ?_
          refine T.thenN ?_
          exact T.toJoin ⟨tb, _, _, ⟨by rw [if_neg hc6], h28, hb⟩, rfl, rfl, rfl⟩ (SubK.nil _) (.cons (t := 1) rfl <| .cons (t := 2) rfl <| .cons (t := 4) rfl <| .cons (t := 6) rfl <| SubK.nil _) qD qD qF
      rintro _ _ _ ⟨t2, a2, c2, ⟨ht2, hf2, hl2⟩, rfl, rfl, rfl⟩
      refine T.norm3 qA qA qA ?_
      obtain ⟨fi, hfi⟩ := nat_of hf2
      have hfil := find_lt hfi
      have hel : (t2.eraseIdx fi).length ≤ 1000 := Nat.le_trans (List.length_eraseIdx_le _ _) hl2
      refine T.thenN ?_
      refine T.seq ?_
      refine T.regionA (clsL [0, 0, 1, 0, 2, 2]) (by kernel_rfl) ?_
      refine A.takeP (i := 2) rfl rfl rfl rfl (by kernel_rfl) (by kernel_rfl) (by kernel_rfl) rfl ?_
      refine L.move rfl rfl ?_
      refine A.took ?_
      refine A.take (i := 0) rfl rfl rfl rfl (by kernel_rfl) (by kernel_rfl) (by kernel_rfl) (by kernel_rfl) rfl qD qF ?_
      refine L.loadA rfl ag47 rfl qN ?_
      refine A.took ?_
      refine A.take (i := 1) rfl rfl rfl rfl (by kernel_rfl) (by kernel_rfl) (by kernel_rfl) (by kernel_rfl) rfl qD qF ?_
      refine L.loadA rfl ag47 rfl qN ?_
      refine A.took ?_
      refine A.branch (is := [3]) (by kernel_rfl) (by decide) (Each.cons rfl ?_ <| Each.nil) 
      refine L.callF rfl (evs.cons rfl <| evs.cons rfl <| evs.cons rfl <| evs.nil) qD qS (find_spec (tb := t2) (n := n) (w := false) (by omega)) (by rintro u D1 M1 ⟨rfl, rfl, rfl⟩; exact ⟨rfl, _, qA, qF⟩) ?_
      rw [hfi]
      refine A.back rfl qD qF ?_
      refine A.branch (is := [4]) (by kernel_rfl) (by decide) (Each.cons rfl ?_ <| Each.nil) 
      refine L.call rfl (evs.cons rfl <| evs.cons rfl <| evs.nil) qD qS (without_spec (tb := t2) (i := fi) (by omega) (by omega)) ?_
      rintro _ _ _ ⟨wa, wc, rfl, rfl, rfl⟩
      refine L.norm qA qA ?_
      refine A.backT rfl ?_
      refine A.branch (is := [5]) (by kernel_rfl) (by decide) (Each.cons rfl ?_ <| Each.nil) 
      refine L.storeA ag47 rfl rfl qL qO qU qW ?_
      refine A.backT rfl ?_
      refine A.done (by kernel_rfl) ?_
      refine T.thenN ?_
      refine T.seq ?_
      refine T.region ?_
      first | refine L.field0 rfl fo47_1 rfl ?_ | refine L.field rfl fo47_1 rfl ?_
      refine L.load rfl sc45 rfl qC ?_
      refine L.move rfl rfl ?_
      refine L.move rfl rfl ?_
      refine L.build rfl bu96 (BP.one rfl rfl rfl <| BP.one rfl rfl rfl <| BP.one rfl rfl rfl <| BP.doneE (out := []) rfl) ?_
      refine L.buildSlice rfl bs45 (by decide) (BP.agg rfl rfl (by first | with_reducible assumption | (simp; done) | (simp only [List.length_map]; with_reducible assumption) | (simp [*]; done) | rfl) (Nat.le_of_ble_eq_true rfl) qR <| BP.doneE (out := []) rfl) (fun b57 => ?_)
      refine L.append1 rfl Try.underlying45 el96 rfl rfl qP qM rfl qO1 qI qI (fun a58 c58 => ?_)
      rw [show (t2.eraseIdx fi).length + 1 = ((t2.eraseIdx fi) ++ [(n, rowF o n, false)]).length from by simp]
      first | refine L.field0 rfl fo47_1 rfl ?_ | refine L.field rfl fo47_1 rfl ?_
      refine L.store sc45 rfl rfl rfl qU qE ?_
      refine L.nil ?_
      refine T.ownEq a58 (((t2.eraseIdx fi) ++ [(n, rowF o n, false)]).map orow) qP (by simp) ?_
      refine T.ownRsl qP ?_
      have hR : hRef o tb n = (t2.eraseIdx fi ++ [(n, rowF o n, false)], -1) := by
        rw [hRef, if_neg hbad, if_pos h28]
        have e : fi = (findF t2 n false).toNat := by omega
        rw [e, ht2]
        split <;> rfl
      refine T.thenN ?_
      refine T.seq ?_
      refine T.region ?_
      refine L.loadA rfl ag47 rfl qN ?_
      refine L.storeA ag47 rfl rfl qL qO qU qW ?_
      refine L.assign rfl rfl ?_
      refine L.nil ?_
      refine T.thenN ?_
      refine T.ret ?_
      refine T.thenR ?_
      rw [hR]
      exact T.retAT rfl ag47 rfl qN rfl ⟨_, _, rfl, rfl, rfl⟩ qD qF
    · try simp only [decide_eq_true_eq, decide_eq_false_iff_not, Bool.not_eq_true', Bool.not_eq_false', Bool.and_eq_true, Bool.or_eq_true] at h28
      refine T.skip ?_
      refine T.thenN ?_
      refine T.seq ?_
      refine T.seq ?_
      refine T.region ?_
      refine L.loadA rfl ag47 rfl qN ?_
      refine L.move rfl rfl ?_
      refine L.callF rfl (evs.cons rfl <| evs.cons rfl <| evs.nil) qD qS (count_spec (by omega)) (by rintro u D1 M1 ⟨rfl, rfl, rfl⟩; exact ⟨rfl, _, qA, qF⟩) ?_
      refine L.ltI rfl rfl rfl ?_
      refine L.nil ?_
      refine T.thenN ?_
      refine T.cond rfl (fun h64 => ?_) (fun h64 => ?_)
      · try simp only [decide_eq_true_eq, decide_eq_false_iff_not, Bool.not_eq_true', Bool.not_eq_false', Bool.and_eq_true, Bool.or_eq_true] at h64
        have hR : hRef o tb n = (tb ++ [(n, rowF o n, false)], -1) := by rw [hRef, if_neg hbad, if_neg h28, if_pos h64]
        refine T.seq ?_
        refine T.region ?_
        refine L.buildSlice rfl bs45 (by decide) (BP.doneE (out := []) rfl) (fun b65 => ?_)
        refine L.toOwn (len := 0) qP (rows := []) (sz := 3) (by rfl) rfl (by simp) ?_
        first | refine L.field0 rfl fo47_1 rfl ?_ | refine L.field rfl fo47_1 rfl ?_
        refine L.load rfl sc45 rfl qC ?_
        refine L.appendR rfl Try.underlying45 Try.underlying45 el96 rfl rfl qP (rd_D qM) one_orow1 qI qI (fun a68 c68 => ?_)
        refine L.move rfl rfl ?_
        refine L.move rfl rfl ?_
        refine L.build rfl bu96 (BP.one rfl rfl rfl <| BP.one rfl rfl rfl <| BP.one rfl rfl rfl <| BP.doneE (out := []) rfl) ?_
        refine L.buildSlice rfl bs45 (by decide) (BP.agg rfl rfl (by first | with_reducible assumption | (simp; done) | (simp only [List.length_map]; with_reducible assumption) | (simp [*]; done) | rfl) (Nat.le_of_ble_eq_true rfl) qR <| BP.doneE (out := []) rfl) (fun b72 => ?_)
        refine L.append1 rfl Try.underlying45 el96 rfl rfl qP qM rfl qO1 qI qI (fun a73 c73 => ?_)
        rw [show 0 + tb.length + 1 = (tb ++ [(n, rowF o n, false)]).length from by simp]
        first | refine L.field0 rfl fo47_1 rfl ?_ | refine L.field rfl fo47_1 rfl ?_
        refine L.store sc45 rfl rfl rfl qU qE ?_
        refine L.nil ?_
        refine T.ownEq a73 ((tb ++ [(n, rowF o n, false)]).map orow) qP (by simp) ?_
        refine T.ownRsl qP ?_
        refine T.thenN ?_
        refine T.seq ?_
        refine T.region ?_
        refine L.loadA rfl ag47 rfl qN ?_
        refine L.storeA ag47 rfl rfl qL qO qU qW ?_
        refine L.assign rfl rfl ?_
        refine L.nil ?_
        refine T.thenN ?_
        refine T.ret ?_
        refine T.thenR ?_
        rw [hR]
        exact T.retAT rfl ag47 rfl qN rfl ⟨_, _, rfl, rfl, rfl⟩ qD qF
      · try simp only [decide_eq_true_eq, decide_eq_false_iff_not, Bool.not_eq_true', Bool.not_eq_false', Bool.and_eq_true, Bool.or_eq_true] at h64
        refine T.skip ?_
        refine T.thenN ?_
        refine T.seq ?_
        refine T.seq ?_
        refine T.region ?_
        refine L.loadA rfl ag47 rfl qN ?_
        refine L.move rfl rfl ?_
        refine L.callF rfl (evs.cons rfl <| evs.cons rfl <| evs.cons rfl <| evs.nil) qD qS (first_spec (tb := tb) (n := (rowF o n)) (w := true) (by omega)) (by rintro u D1 M1 ⟨rfl, rfl, rfl⟩; exact ⟨rfl, _, qA, qF⟩) ?_
        refine L.ltI rfl rfl rfl ?_
        refine L.nil ?_
        refine T.thenN ?_
        refine T.cond rfl (fun h79 => ?_) (fun h79 => ?_)
        · try simp only [decide_eq_true_eq, decide_eq_false_iff_not, Bool.not_eq_true', Bool.not_eq_false', Bool.and_eq_true, Bool.or_eq_true] at h79
          have hR : hRef o tb n = (tb ++ [(n, rowF o n, true)], (firstF tb (rowF o n) false)) := by rw [hRef, if_neg hbad, if_neg h28, if_neg h64, if_pos h79]
          refine T.seq ?_
          refine T.region ?_
          refine L.buildSlice rfl bs45 (by decide) (BP.doneE (out := []) rfl) (fun b80 => ?_)
          refine L.toOwn (len := 0) qP (rows := []) (sz := 3) (by rfl) rfl (by simp) ?_
          first | refine L.field0 rfl fo47_1 rfl ?_ | refine L.field rfl fo47_1 rfl ?_
          refine L.load rfl sc45 rfl qC ?_
          refine L.appendR rfl Try.underlying45 Try.underlying45 el96 rfl rfl qP (rd_D qM) one_orow1 qI qI (fun a83 c83 => ?_)
          refine L.move rfl rfl ?_
          refine L.move rfl rfl ?_
          refine L.build rfl bu96 (BP.one rfl rfl rfl <| BP.one rfl rfl rfl <| BP.one rfl rfl rfl <| BP.doneE (out := []) rfl) ?_
          refine L.buildSlice rfl bs45 (by decide) (BP.agg rfl rfl (by first | with_reducible assumption | (simp; done) | (simp only [List.length_map]; with_reducible assumption) | (simp [*]; done) | rfl) (Nat.le_of_ble_eq_true rfl) qR <| BP.doneE (out := []) rfl) (fun b87 => ?_)
          refine L.append1 rfl Try.underlying45 el96 rfl rfl qP qM rfl qO1 qI qI (fun a88 c88 => ?_)
          rw [show 0 + tb.length + 1 = (tb ++ [(n, rowF o n, true)]).length from by simp]
          first | refine L.field0 rfl fo47_1 rfl ?_ | refine L.field rfl fo47_1 rfl ?_
          refine L.store sc45 rfl rfl rfl qU qE ?_
          refine L.nil ?_
          refine T.ownEq a88 ((tb ++ [(n, rowF o n, true)]).map orow) qP (by simp) ?_
          refine T.ownRsl qP ?_
          refine T.thenN ?_
          refine T.seq ?_
          refine T.regionA (clsL [0, 0, 1, 0, 2, 1]) (by kernel_rfl) ?_
          refine A.takeP (i := 2) rfl rfl rfl rfl (by kernel_rfl) (by kernel_rfl) (by kernel_rfl) rfl ?_
          refine L.move rfl rfl ?_
          refine A.took ?_
          refine A.take (i := 0) rfl rfl rfl rfl (by kernel_rfl) (by kernel_rfl) (by kernel_rfl) (by kernel_rfl) rfl qD qF ?_
          refine L.loadA rfl ag47 rfl qN ?_
          refine A.took ?_
          refine A.take (i := 1) rfl rfl rfl rfl (by kernel_rfl) (by kernel_rfl) (by kernel_rfl) (by kernel_rfl) rfl qD qF ?_
          refine L.loadA rfl ag47 rfl qN ?_
          refine A.took ?_
          refine A.branch (is := [3]) (by kernel_rfl) (by decide) (Each.cons rfl ?_ <| Each.nil) 
          refine L.callF rfl (evs.cons rfl <| evs.cons rfl <| evs.cons rfl <| evs.nil) qD qS (first_spec (tb := tb ++ [(n, rowF o n, true)]) (n := rowF o n) (w := false) (by simp; omega)) (by rintro u D1 M1 ⟨rfl, rfl, rfl⟩; exact ⟨rfl, _, qA, qF⟩) ?_
          rw [first_push]
          refine A.back rfl qD qF ?_
          refine A.branch (is := [4]) (by kernel_rfl) (by decide) (Each.cons rfl ?_ <| Each.nil) 
          refine L.storeA ag47 rfl rfl qL qO qU qW ?_
          refine A.backT rfl ?_
          refine A.takeP (i := 5) rfl rfl rfl rfl (by kernel_rfl) (by kernel_rfl) (by kernel_rfl) rfl ?_
          refine L.assign rfl rfl ?_
          refine A.took ?_
          refine A.done (by kernel_rfl) ?_
          refine T.thenN ?_
          refine T.ret ?_
          refine T.thenR ?_
          rw [hR]
          exact T.retAT rfl ag47 rfl qN rfl ⟨_, _, rfl, rfl, rfl⟩ qD qF
        · try simp only [decide_eq_true_eq, decide_eq_false_iff_not, Bool.not_eq_true', Bool.not_eq_false', Bool.and_eq_true, Bool.or_eq_true] at h79
          have hR : hRef o tb n = (tb, -1) := by rw [hRef, if_neg hbad, if_neg h28, if_neg h64, if_neg h79]
          refine T.skip ?_
          refine T.thenN ?_
          refine T.seq ?_
          refine T.region ?_
          refine L.loadA rfl ag47 rfl qN ?_
          refine L.storeA ag47 rfl rfl qL qO qU qW ?_
          refine L.assign rfl rfl ?_
          refine L.nil ?_
          refine T.thenN ?_
          refine T.ret ?_
          rw [hR]
          exact T.retAT rfl ag47 rfl qN rfl ⟨_, _, rfl, rfl, rfl⟩ qD qF
set_option maxHeartbeats 1000000 in
theorem rgone_spec {a : Option Addr} {len cap : Nat} {o : Int} {tb : List One} {n : Int} (hb : tb.length ≤ 1000) : Spec Try.prog 42 [.agg [.int .i64 o, .slice a len cap].toArray, .int .i64 n] [rsl 3 a len cap ((tb).map orow)] [] (fun v D' M' => ∃ (a1 : Option Addr) (c1 : Nat), v = .tuple #[.agg [.int .i64 o, .slice a1 (gRef o tb n).1.length c1].toArray, .bool (gRef o tb n).2] ∧ D' = [rsl 3 a1 (gRef o tb n).1.length c1 (((gRef o tb n).1).map orow)] ∧ M' = []) := by
  refine Spec.intro (n := 40) Try.func42 rfl rfl (by decide) (Nat.le_of_ble_eq_true rfl) rfl (fun _ => qA) (fun _ => qA) ?_
  intro σ D M
  refine T.rslLen2 (rows := tb.map orow) qM (fun hl hcp => ?_)
  rw [List.length_map] at hl
  subst hl
  refine T.seq ?_
  refine T.region ?_
  refine L.box rfl rfl rfl (fun b2 => ?_)
  refine L.alloc rfl ze47 (fun b4 => ?_)
  refine L.assign rfl rfl ?_
  refine L.nil ?_
  refine T.thenN ?_
  refine T.seq ?_
  refine T.region ?_
  refine L.loadA rfl ag47 rfl qN ?_
  refine L.move rfl rfl ?_
  refine L.callF rfl (evs.cons rfl <| evs.cons rfl <| evs.cons rfl <| evs.nil) qD qS (find_spec (tb := tb) (n := n) (w := false) (by omega)) (by rintro u D1 M1 ⟨rfl, rfl, rfl⟩; exact ⟨rfl, _, qA, qF⟩) ?_
  refine L.assign rfl rfl ?_
  refine L.nil ?_
  refine T.thenN ?_
  refine T.seq ?_
  refine T.seq ?_
  refine T.region ?_
  refine L.move rfl rfl ?_
  refine L.ltI rfl rfl rfl ?_
  refine L.nil ?_
  refine T.thenN ?_
  refine T.cond rfl (fun h13 => ?_) (fun h13 => ?_)
  · try simp only [decide_eq_true_eq, decide_eq_false_iff_not, Bool.not_eq_true', Bool.not_eq_false', Bool.and_eq_true, Bool.or_eq_true] at h13
    have hR : gRef o tb n = (tb, false) := by rw [gRef, if_pos h13]
    refine T.seq ?_
    refine T.region ?_
    refine L.loadA rfl ag47 rfl qN ?_
    refine L.storeA ag47 rfl rfl qL qO qU qW ?_
    refine L.assign rfl rfl ?_
    refine L.nil ?_
    refine T.thenN ?_
    refine T.ret ?_
    refine T.thenR ?_
    rw [hR]
    exact T.retAT rfl ag47 rfl qN rfl ⟨_, _, rfl, rfl, rfl⟩ qD qF
  · try simp only [decide_eq_true_eq, decide_eq_false_iff_not, Bool.not_eq_true', Bool.not_eq_false', Bool.and_eq_true, Bool.or_eq_true] at h13
    obtain ⟨fi, hfi⟩ := nat_of (show 0 ≤ findF tb n false by omega)
    rw [hfi]
    have hfil := find_lt hfi
    have hfi2 : (findF tb n false).toNat = fi := by omega
    have hel : (tb.eraseIdx fi).length ≤ 1000 := Nat.le_trans (List.length_eraseIdx_le _ _) hb
    refine T.skip ?_
    refine T.thenN ?_
    refine T.seq ?_
    refine T.region ?_
    refine L.loadA rfl ag47 rfl qN ?_
    refine L.move rfl rfl ?_
    refine L.callF rfl (evs.cons rfl <| evs.cons rfl <| evs.nil) qD qS (rrow_spec) (by rintro u D1 M1 ⟨rfl, rfl, rfl⟩; exact ⟨rfl, _, qA, qF⟩) ?_
    refine L.assign rfl rfl ?_
    refine L.nil ?_
    refine T.thenN ?_
    refine T.seq ?_
    refine T.region ?_
    refine L.loadA rfl ag47 rfl qN ?_
    refine L.move rfl rfl ?_
    refine L.call rfl (evs.cons rfl <| evs.cons rfl <| evs.nil) qD qS (without_spec (tb := tb) (i := fi) (by omega) (by omega)) ?_
    rintro _ _ _ ⟨wa, wc, rfl, rfl, rfl⟩
    refine L.norm qA qA ?_
    refine L.storeA ag47 rfl rfl qL qO qU qW ?_
    refine L.nil ?_
    refine T.ownRsl qP ?_
    refine T.thenN ?_
    refine T.seq ?_
    refine T.region ?_
    refine L.loadA rfl ag47 rfl qN ?_
    refine L.move rfl rfl ?_
    refine L.callF rfl (evs.cons rfl <| evs.cons rfl <| evs.cons rfl <| evs.nil) qD qS (first_spec (tb := (tb.eraseIdx fi)) (n := (rowF o n)) (w := true) (by omega)) (by rintro u D1 M1 ⟨rfl, rfl, rfl⟩; exact ⟨rfl, _, qA, qF⟩) ?_
    refine L.assign rfl rfl ?_
    refine L.nil ?_
    refine T.thenN ?_
    refine T.seq ?_
    refine T.seq ?_
    refine T.region ?_
    refine L.move rfl rfl ?_
    refine L.geI rfl rfl rfl ?_
    refine L.nil ?_
    refine T.thenN ?_
    refine T.cond rfl (fun h25 => ?_) (fun h25 => ?_)
    · try simp only [decide_eq_true_eq, decide_eq_false_iff_not, Bool.not_eq_true', Bool.not_eq_false', Bool.and_eq_true, Bool.or_eq_true] at h25
      obtain ⟨wi, hwi⟩ := nat_of (first_found h25)
      have hwil := find_lt hwi
      have hel2 : ((tb.eraseIdx fi).eraseIdx wi).length ≤ 1000 := Nat.le_trans (List.length_eraseIdx_le _ _) hel
      have hR : gRef o tb n = ((tb.eraseIdx fi).eraseIdx wi ++ [((firstF (tb.eraseIdx fi) (rowF o n) true), rowF o n, false)], true) := by rw [gRef, if_neg h13, hfi2, if_pos h25, hwi]; rfl
      refine T.seq ?_
      refine T.regionA (clsL [0, 0, 1, 0, 2, 2]) (by kernel_rfl) ?_
      refine A.takeP (i := 2) rfl rfl rfl rfl (by kernel_rfl) (by kernel_rfl) (by kernel_rfl) rfl ?_
      refine L.move rfl rfl ?_
      refine A.took ?_
      refine A.take (i := 0) rfl rfl rfl rfl (by kernel_rfl) (by kernel_rfl) (by kernel_rfl) (by kernel_rfl) rfl qD qF ?_
      refine L.loadA rfl ag47 rfl qN ?_
      refine A.took ?_
      refine A.take (i := 1) rfl rfl rfl rfl (by kernel_rfl) (by kernel_rfl) (by kernel_rfl) (by kernel_rfl) rfl qD qF ?_
      refine L.loadA rfl ag47 rfl qN ?_
      refine A.took ?_
      refine A.branch (is := [3]) (by kernel_rfl) (by decide) (Each.cons rfl ?_ <| Each.nil) 
      refine L.callF rfl (evs.cons rfl <| evs.cons rfl <| evs.cons rfl <| evs.nil) qD qS (find_spec (tb := (tb.eraseIdx fi)) (n := (firstF (tb.eraseIdx fi) (rowF o n) true)) (w := true) (by omega)) (by rintro u D1 M1 ⟨rfl, rfl, rfl⟩; exact ⟨rfl, _, qA, qF⟩) ?_
      rw [hwi]
      refine A.back rfl qD qF ?_
      refine A.branch (is := [4]) (by kernel_rfl) (by decide) (Each.cons rfl ?_ <| Each.nil) 
      refine L.call rfl (evs.cons rfl <| evs.cons rfl <| evs.nil) qD qS (without_spec (tb := (tb.eraseIdx fi)) (i := wi) (by omega) (by omega)) ?_
      rintro _ _ _ ⟨wa, wc, rfl, rfl, rfl⟩
      refine L.norm qA qA ?_
      refine A.backT rfl ?_
      refine A.branch (is := [5]) (by kernel_rfl) (by decide) (Each.cons rfl ?_ <| Each.nil) 
      refine L.storeA ag47 rfl rfl qL qO qU qW ?_
      refine A.backT rfl ?_
      refine A.done (by kernel_rfl) ?_
      refine T.thenN ?_
      refine T.region ?_
      first | refine L.field0 rfl fo47_1 rfl ?_ | refine L.field rfl fo47_1 rfl ?_
      refine L.load rfl sc45 rfl qC ?_
      refine L.move rfl rfl ?_
      refine L.move rfl rfl ?_
      refine L.build rfl bu96 (BP.one rfl rfl rfl <| BP.one rfl rfl rfl <| BP.one rfl rfl rfl <| BP.doneE (out := []) rfl) ?_
      refine L.buildSlice rfl bs45 (by decide) (BP.agg rfl rfl (by first | with_reducible assumption | (simp; done) | (simp only [List.length_map]; with_reducible assumption) | (simp [*]; done) | rfl) (Nat.le_of_ble_eq_true rfl) qR <| BP.doneE (out := []) rfl) (fun b36 => ?_)
      refine L.append1 rfl Try.underlying45 el96 rfl rfl qP qM rfl qO1 qI qI (fun a37 c37 => ?_)
      rw [show ((tb.eraseIdx fi).eraseIdx wi).length + 1 = ((tb.eraseIdx fi).eraseIdx wi ++ [((firstF (tb.eraseIdx fi) (rowF o n) true), rowF o n, false)]).length from by simp]
      first | refine L.field0 rfl fo47_1 rfl ?_ | refine L.field rfl fo47_1 rfl ?_
      refine L.store sc45 rfl rfl rfl qU qE ?_
      refine L.nil ?_
      refine T.ownEq a37 (((tb.eraseIdx fi).eraseIdx wi ++ [((firstF (tb.eraseIdx fi) (rowF o n) true), rowF o n, false)]).map orow) qP (by simp) ?_
      refine T.ownRsl qP ?_
      refine T.thenN ?_
      refine T.seq ?_
      refine T.region ?_
      refine L.loadA rfl ag47 rfl qN ?_
      refine L.storeA ag47 rfl rfl qL qO qU qW ?_
      refine L.assign rfl rfl ?_
      refine L.nil ?_
      refine T.thenN ?_
      refine T.ret ?_
      rw [hR]
      exact T.retAT rfl ag47 rfl qN rfl ⟨_, _, rfl, rfl, rfl⟩ qD qF
    · try simp only [decide_eq_true_eq, decide_eq_false_iff_not, Bool.not_eq_true', Bool.not_eq_false', Bool.and_eq_true, Bool.or_eq_true] at h25
      have hR : gRef o tb n = (tb.eraseIdx fi, true) := by rw [gRef, if_neg h13, hfi2, if_neg h25]
      refine T.skip ?_
      refine T.thenN ?_
      refine T.seq ?_
      refine T.region ?_
      refine L.loadA rfl ag47 rfl qN ?_
      refine L.storeA ag47 rfl rfl qL qO qU qW ?_
      refine L.assign rfl rfl ?_
      refine L.nil ?_
      refine T.thenN ?_
      refine T.ret ?_
      rw [hR]
      exact T.retAT rfl ag47 rfl qN rfl ⟨_, _, rfl, rfl, rfl⟩ qD qF
set_option maxHeartbeats 400000 in
theorem rall_spec {a : Option Addr} {len cap : Nat} {o : Int} {tb : List One}  (hb : tb.length ≤ 1000) : Spec Try.prog 23 [.agg [.int .i64 o, .slice a len cap].toArray] [rsl 3 a len cap ((tb).map orow)] [] (fun v D' M' => ∃ (a1 : Option Addr) (c1 : Nat), v = .slice a1 (((List.range 64).map (fun j : Nat => (j : Int))).filter (fun n => decide (0 ≤ findF tb n false))).length c1 ∧ D' = [] ∧ M' = [own 1 3 a1 (((List.range 64).map (fun j : Nat => (j : Int))).filter (fun n => decide (0 ≤ findF tb n false))).length c1 ((((List.range 64).map (fun j : Nat => (j : Int))).filter (fun n => decide (0 ≤ findF tb n false))).map e3)]) := by
  refine Spec.intro (n := 19) Try.func23 rfl rfl (by decide) (Nat.le_of_ble_eq_true rfl) rfl (fun _ => qA) (fun _ => qA) ?_
  intro σ D M
  refine T.rslLen2 (rows := tb.map orow) qM (fun hl hcp => ?_)
  rw [List.length_map] at hl
  subst hl
  refine T.seq ?_
  refine T.region ?_
  refine L.box rfl rfl rfl (fun b1 => ?_)
  refine L.assign rfl rfl ?_
  refine L.nil ?_
  refine T.thenN ?_
  refine T.seq ?_
  refine T.region ?_
  refine L.buildSlice rfl bs22 (by decide) (BP.doneE (out := []) rfl) (fun b5 => ?_)
  refine L.toOwn (len := 0) qP (rows := ([] : List Int).map e3) (sz := 1) (by rfl) rfl (by simp) ?_
  refine L.assign rfl rfl ?_
  refine L.nil ?_
  refine T.thenN ?_
  refine T.seq ?_
  refine T.seq ?_
  refine T.region ?_
  refine L.assign rfl rfl ?_
  refine L.nil ?_
  refine T.thenN ?_
  refine T.block ?_
  refine T.eqv qP (show own 1 3 (some ⟨b5, 0, none⟩) 0 0 (([] : List Int).map e3) = own 1 3 (some ⟨b5, 0, none⟩) (((List.range 0).map (fun j : Nat => (j : Int))).filter (fun n => decide (0 ≤ findF tb n false))).length 0 ((((List.range 0).map (fun j : Nat => (j : Int))).filter (fun n => decide (0 ≤ findF tb n false))).map e3) from rfl) ?_
  refine T.loop (fun K' D' M' μ => ∃ (i : Nat) (a1 : Option Addr) (c1 : Nat), (i ≤ 64) ∧ K' = [(4, .int .i64 (i : Int)), (3, .slice a1 (((List.range i).map (fun j : Nat => (j : Int))).filter (fun n => decide (0 ≤ findF tb n false))).length c1)] ∧ D' = [] ∧ M' = [own 1 3 a1 (((List.range i).map (fun j : Nat => (j : Int))).filter (fun n => decide (0 ≤ findF tb n false))).length c1 ((((List.range i).map (fun j : Nat => (j : Int))).filter (fun n => decide (0 ≤ findF tb n false))).map e3)] ∧ μ = 64 - i) (.cons (t := 1) rfl <| SubK.nil _) (⟨0, _, _, Nat.zero_le _, rfl, rfl, rfl, rfl⟩) (.cons (t := 4) rfl <| .cons (t := 3) rfl <| SubK.nil _) qD qS ?_
  rintro K1 D1 M1 m1 ⟨i, a1, c1, hi, rfl, rfl, rfl, rfl⟩
  refine T.norm3 qA qA qA ?_
  have hal : (((List.range i).map (fun j : Nat => (j : Int))).filter (fun n => decide (0 ≤ findF tb n false))).length ≤ 64 := Nat.le_trans (List.length_filter_le _ _) (by simp; omega)
  refine T.seq ?_
  refine T.seq ?_
  refine T.region ?_
  refine L.move rfl rfl ?_
  refine L.ltI rfl rfl rfl ?_
  refine L.nil ?_
  refine T.thenN ?_
  refine T.cond rfl (fun h7 => ?_) (fun h7 => ?_)
  · try simp only [decide_eq_true_eq, decide_eq_false_iff_not, Bool.not_eq_true', Bool.not_eq_false', Bool.and_eq_true, Bool.or_eq_true] at h7
    refine T.skip ?_
    refine T.thenN ?_
    refine T.seq ?_
    refine T.block ?_
    refine T.seq ?_
    refine T.region ?_
    refine L.loadA rfl ag47 rfl qN ?_
    refine L.move rfl rfl ?_
    refine L.callF rfl (evs.cons rfl <| evs.cons rfl <| evs.cons rfl <| evs.nil) qD qS (find_spec (n := (i : Int)) (by omega)) (by rintro u D1 M1 ⟨rfl, rfl, rfl⟩; exact ⟨rfl, _, qA, qF⟩) ?_
    refine L.geI rfl rfl rfl ?_
    refine L.nil ?_
    refine T.thenN ?_
    refine T.cond rfl (fun h13 => ?_) (fun h13 => ?_)
    · try simp only [decide_eq_true_eq, decide_eq_false_iff_not, Bool.not_eq_true', Bool.not_eq_false', Bool.and_eq_true, Bool.or_eq_true] at h13
      refine T.region ?_
      refine L.move rfl rfl ?_
      refine L.move rfl rfl ?_
      refine L.buildSlice rfl bs22 (by decide) (BP.one rfl rfl rfl <| BP.doneE (out := []) rfl) (fun b16 => ?_)
      refine L.append1 rfl Try.underlying22 el3 rfl rfl qP qM rfl qO1 qI qI (fun a17 c17 => ?_)
      refine L.assign rfl rfl ?_
      refine L.nil ?_
      refine T.blkN ?_
      refine T.thenN ?_
      refine T.region ?_
      refine L.move rfl rfl ?_
      refine L.addN rfl rfl rfl (by omega) ?_
      refine L.assign rfl rfl ?_
      refine L.nil ?_
      refine T.thenN ?_
      have e1 : (((List.range i).map (fun j : Nat => (j : Int))).filter (fun n => decide (0 ≤ findF tb n false))) ++ [(i : Int)] = (((List.range (i + 1)).map (fun j : Nat => (j : Int))).filter (fun n => decide (0 ≤ findF tb n false))) := by rw [List.range_succ, List.map_append, List.filter_append]; simp [h13]
      refine T.ownEq a17 (((((List.range i).map (fun j : Nat => (j : Int))).filter (fun n => decide (0 ≤ findF tb n false))) ++ [(i : Int)]).map e3) qP (by simp) ?_
      rw [show (((List.range i).map (fun j : Nat => (j : Int))).filter (fun n => decide (0 ≤ findF tb n false))).length + 1 = ((((List.range i).map (fun j : Nat => (j : Int))).filter (fun n => decide (0 ≤ findF tb n false))) ++ [(i : Int)]).length from by simp, e1]
      exact T.back ⟨i + 1, _, _, by omega, rfl, rfl, rfl, rfl⟩ qI (.cons (t := 4) rfl <| .cons (t := 3) rfl <| SubK.nil _) (.cons (t := 1) rfl <| SubK.nil _) qD qD qF
    · try simp only [decide_eq_true_eq, decide_eq_false_iff_not, Bool.not_eq_true', Bool.not_eq_false', Bool.and_eq_true, Bool.or_eq_true] at h13
      refine T.skip ?_
      refine T.blkN ?_
      refine T.thenN ?_
      refine T.region ?_
      refine L.move rfl rfl ?_
      refine L.addN rfl rfl rfl (by omega) ?_
      refine L.assign rfl rfl ?_
      refine L.nil ?_
      refine T.thenN ?_
      have e1 : (((List.range i).map (fun j : Nat => (j : Int))).filter (fun n => decide (0 ≤ findF tb n false))) = (((List.range (i + 1)).map (fun j : Nat => (j : Int))).filter (fun n => decide (0 ≤ findF tb n false))) := by rw [List.range_succ, List.map_append, List.filter_append]; simp [h13]
      rw [e1]
      exact T.back ⟨i + 1, _, _, by omega, rfl, rfl, rfl, rfl⟩ qI (.cons (t := 4) rfl <| .cons (t := 3) rfl <| SubK.nil _) (.cons (t := 1) rfl <| SubK.nil _) qD qD qF
  · try simp only [decide_eq_true_eq, decide_eq_false_iff_not, Bool.not_eq_true', Bool.not_eq_false', Bool.and_eq_true, Bool.or_eq_true] at h7
    obtain rfl : i = 64 := by omega
    refine T.exit ?_
    refine T.thenX ?_
    refine T.thenX ?_
    refine T.blkX ?_
    refine T.thenN ?_
    refine T.seq ?_
    refine T.region ?_
    refine L.move rfl rfl ?_
    refine L.assign rfl rfl ?_
    refine L.nil ?_
    refine T.thenN ?_
    refine T.ret ?_
    exact T.ret1 rfl rfl ⟨_, _, rfl, rfl, rfl⟩ qD qF
end Cv
