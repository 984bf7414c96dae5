/-
  The walks: the walks of the document's search: hearing, asking.
-/
import Derived.Test.YtjacegfanhejdaaY20
import Derived.Test.YtjacegfanhejdaaProg
import Derived.KernelRfl
set_option linter.unusedVariables false
set_option linter.unusedSimpArgs false
set_option linter.unusedSectionVars false
set_option maxRecDepth 10000
namespace Cv
open Go Go.Proofs
theorem rans_cases (g id : List UInt8) (st : List Int) (fr : Int) : ¬ id = g ∨ (id = g ∧ fr < 0) ∨ (id = g ∧ ¬ fr < 0 ∧ 63 < fr) ∨ (id = g ∧ ¬ fr < 0 ∧ ¬ 63 < fr) := by
  by_cases h : id = g
  · right
    rcases Decidable.em (fr < 0) with h2 | h2
    · exact .inl ⟨h, h2⟩
    · rcases Decidable.em (63 < fr) with h3 | h3
      · exact .inr (.inl ⟨h, h2, h3⟩)
      · exact .inr (.inr ⟨h, h2, h3⟩)
  · exact .inl h
theorem fo46_3 : Fo Try.prog 46 3 3 := fun a w => by kernel_rfl
theorem bu46 : Bu Try.prog 46 [S [], Value.int .i64 0, Value.slice none 0 0, Value.slice none 0 0, Value.slice none 0 0] (fun (i : Nat) => ([(0, 1), (1, 1), (2, 1), (3, 1), (4, 1)] : List (Nat × Nat))[i]?) := bu_of Try.underlying46 zv46 rfl (fun w => by kernel_rfl)
set_option maxHeartbeats 400000 in
theorem rhear_spec {g : List UInt8} {o : Int} {p : XP} {st : List Int} {hv : List Bool} {fr : Int} {id : List UInt8} {pa ha : Option Addr} {pl pc hl hc : Nat} {ps hs : List Int} (hpl : pl ≤ 4611686018427387000) (hhl : hl ≤ 4611686018427387000) : Spec Try.prog 22 [.agg (xV g o p).toArray, .int .i64 fr, .bool true, S id, .slice pa pl pc, .slice ha hl hc] [rsl 1 p.1.1 64 p.1.2 (st.map e3), rsl 1 p.2.2.1 64 p.2.2.2 (hv.map e4), rsl 1 pa pl pc (ps.map e3), rsl 1 ha hl hc (hs.map e3)] [] (fun v D' M' => ∃ (q r : Option Addr × Nat), v = .tuple #[.agg (xV g o (q, p.2.1, r)).toArray, .bool (decide (RAns g id st fr))] ∧ D' = [rsl 1 q.1 64 q.2 ((if RAns g id st fr then rmeetF o (st.set fr.toNat 2) ps else st).map e3), rsl 1 r.1 64 r.2 ((if RAns g id st fr then rhasF o hv hs else hv).map e4)] ∧ M' = []) := by
  refine Spec.intro (n := 54) Try.func22 rfl rfl (by decide) (Nat.le_of_ble_eq_true rfl) rfl (fun _ => qA) (fun _ => qA) ?_
  intro σ D M
  refine T.rslLen2 (rows := st.map e3) qM (fun hst hstc => ?_)
  rw [List.length_map] at hst
  
  refine T.seq ?_
  refine T.region ?_
  refine L.box rfl rfl rfl (fun b6 => ?_)
  refine L.alloc rfl ze46 (fun b12 => ?_)
  refine L.assign rfl rfl ?_
  refine L.nil ?_
  refine T.thenN ?_
  refine T.seq ?_
  refine T.seq ?_
  refine T.cutC (fun K' D' M' => ∃ (w : Bool), (w = false ↔ RAns g id st fr) ∧ K' = [(38, .bool w)] ∧ D' = [] ∧ M' = [cl b6 46 (xV g o p)]) (M0 := [cl b6 46 (xV g o p)]) (.cons (t := 1) rfl <| .cons (t := 4) rfl <| .cons (t := 5) rfl <| .cons (t := 6) rfl <| .cons (t := 12) rfl <| SubK.nil _) qS ?_ ?_
  · skip
    rcases rans_cases g id st fr with h1 | ⟨h1, h2⟩ | ⟨h1, h2, h3⟩ | ⟨h1, h2, h3⟩
    · skip
      refine T.region ?_
      refine L.move rfl rfl ?_
      refine L.notB rfl rfl ?_
      refine L.move rfl rfl ?_
      refine L.known (t := 17) rfl (show _ = Value.bool false from rfl) ?_
      refine L.guardT (dj := 17) rfl rfl rfl ?_
      refine L.move rfl rfl ?_
      refine L.guardT (dj := 17) rfl rfl rfl ?_
      first | refine L.field0 rfl fo46_0 rfl ?_ | refine L.field rfl fo46_0 rfl ?_
      refine L.guardT (dj := 17) rfl rfl rfl ?_
      refine L.load rfl sc9 rfl qC ?_
      refine L.guardT (dj := 17) rfl rfl rfl ?_
      refine L.neS rfl rfl rfl ?_
      refine L.pickF rfl rfl rfl ?_
      refine L.move rfl rfl ?_
      refine L.known (t := 23) rfl (show _ = Value.bool true from congrArg Value.bool (by rw [decide_eq_false h1]; rfl)) ?_
      refine L.guardF (dj := 23) (c := true) rfl rfl rfl rfl rfl (by decide) ?_
      refine L.guardF (dj := 23) (c := true) rfl rfl rfl rfl rfl (by decide) ?_
      refine L.pickT rfl rfl rfl ?_
      refine L.move rfl rfl ?_
      refine L.guardF (dj := 27) (c := true) rfl rfl rfl rfl rfl (by decide) ?_
      refine L.guardF (dj := 27) (c := true) rfl rfl rfl rfl rfl (by decide) ?_
      refine L.pickT rfl rfl rfl ?_
      refine L.move rfl rfl ?_
      refine L.guardF (dj := 31) (c := true) rfl rfl rfl rfl rfl (by decide) ?_
      refine L.guardF (dj := 31) (c := true) rfl rfl rfl rfl rfl (by decide) ?_
      refine L.guardF (dj := 31) (c := true) rfl rfl rfl rfl rfl (by decide) ?_
      refine L.guardF (dj := 31) (c := true) rfl rfl rfl rfl rfl (by decide) ?_
      refine L.guardF (dj := 31) (c := true) rfl rfl rfl rfl rfl (by decide) ?_
      refine L.guardF (dj := 31) (c := true) rfl rfl rfl rfl rfl (by decide) ?_
      refine L.pickT rfl rfl rfl ?_
      refine L.nil ?_
      refine T.thenN ?_
      exact T.toJoin ⟨_, ⟨(fun h => by cases h), (fun h => absurd h.1 h1)⟩, rfl, rfl, rfl⟩ (.cons (t := 38) rfl <| SubK.nil _) (.cons (t := 1) rfl <| .cons (t := 4) rfl <| .cons (t := 5) rfl <| .cons (t := 6) rfl <| .cons (t := 12) rfl <| SubK.nil _) qD qD qF
    · skip
      refine T.region ?_
      refine L.move rfl rfl ?_
      refine L.notB rfl rfl ?_
      refine L.move rfl rfl ?_
      refine L.known (t := 17) rfl (show _ = Value.bool false from rfl) ?_
      refine L.guardT (dj := 17) rfl rfl rfl ?_
      refine L.move rfl rfl ?_
      refine L.guardT (dj := 17) rfl rfl rfl ?_
      first | refine L.field0 rfl fo46_0 rfl ?_ | refine L.field rfl fo46_0 rfl ?_
      refine L.guardT (dj := 17) rfl rfl rfl ?_
      refine L.load rfl sc9 rfl qC ?_
      refine L.guardT (dj := 17) rfl rfl rfl ?_
      refine L.neS rfl rfl rfl ?_
      refine L.pickF rfl rfl rfl ?_
      refine L.move rfl rfl ?_
      refine L.known (t := 23) rfl (show _ = Value.bool false from congrArg Value.bool (by rw [decide_eq_true h1]; rfl)) ?_
      refine L.guardT (dj := 23) rfl rfl rfl ?_
      refine L.move rfl rfl ?_
      refine L.guardT (dj := 23) rfl rfl rfl ?_
      refine L.ltI rfl rfl rfl ?_
      refine L.pickF rfl rfl rfl ?_
      refine L.move rfl rfl ?_
      refine L.known (t := 27) rfl (show _ = Value.bool true from congrArg Value.bool (decide_eq_true h2)) ?_
      refine L.guardF (dj := 27) (c := true) rfl rfl rfl rfl rfl (by decide) ?_
      refine L.guardF (dj := 27) (c := true) rfl rfl rfl rfl rfl (by decide) ?_
      refine L.pickT rfl rfl rfl ?_
      refine L.move rfl rfl ?_
      refine L.guardF (dj := 31) (c := true) rfl rfl rfl rfl rfl (by decide) ?_
      refine L.guardF (dj := 31) (c := true) rfl rfl rfl rfl rfl (by decide) ?_
      refine L.guardF (dj := 31) (c := true) rfl rfl rfl rfl rfl (by decide) ?_
      refine L.guardF (dj := 31) (c := true) rfl rfl rfl rfl rfl (by decide) ?_
      refine L.guardF (dj := 31) (c := true) rfl rfl rfl rfl rfl (by decide) ?_
      refine L.guardF (dj := 31) (c := true) rfl rfl rfl rfl rfl (by decide) ?_
      refine L.pickT rfl rfl rfl ?_
      refine L.nil ?_
      refine T.thenN ?_
      exact T.toJoin ⟨_, ⟨(fun h => by cases h), (fun h => by have := h.2.1; omega)⟩, rfl, rfl, rfl⟩ (.cons (t := 38) rfl <| SubK.nil _) (.cons (t := 1) rfl <| .cons (t := 4) rfl <| .cons (t := 5) rfl <| .cons (t := 6) rfl <| .cons (t := 12) rfl <| SubK.nil _) qD qD qF
    · skip
      refine T.region ?_
      refine L.move rfl rfl ?_
      refine L.notB rfl rfl ?_
      refine L.move rfl rfl ?_
      refine L.known (t := 17) rfl (show _ = Value.bool false from rfl) ?_
      refine L.guardT (dj := 17) rfl rfl rfl ?_
      refine L.move rfl rfl ?_
      refine L.guardT (dj := 17) rfl rfl rfl ?_
      first | refine L.field0 rfl fo46_0 rfl ?_ | refine L.field rfl fo46_0 rfl ?_
      refine L.guardT (dj := 17) rfl rfl rfl ?_
      refine L.load rfl sc9 rfl qC ?_
      refine L.guardT (dj := 17) rfl rfl rfl ?_
      refine L.neS rfl rfl rfl ?_
      refine L.pickF rfl rfl rfl ?_
      refine L.move rfl rfl ?_
      refine L.known (t := 23) rfl (show _ = Value.bool false from congrArg Value.bool (by rw [decide_eq_true h1]; rfl)) ?_
      refine L.guardT (dj := 23) rfl rfl rfl ?_
      refine L.move rfl rfl ?_
      refine L.guardT (dj := 23) rfl rfl rfl ?_
      refine L.ltI rfl rfl rfl ?_
      refine L.pickF rfl rfl rfl ?_
      refine L.move rfl rfl ?_
      refine L.known (t := 27) rfl (show _ = Value.bool false from congrArg Value.bool (decide_eq_false h2)) ?_
      refine L.guardT (dj := 27) rfl rfl rfl ?_
      refine L.move rfl rfl ?_
      refine L.guardT (dj := 27) rfl rfl rfl ?_
      refine L.gtI rfl rfl rfl ?_
      refine L.pickF rfl rfl rfl ?_
      refine L.move rfl rfl ?_
      refine L.known (t := 31) rfl (show _ = Value.bool true from congrArg Value.bool (decide_eq_true h3)) ?_
      refine L.guardF (dj := 31) (c := true) rfl rfl rfl rfl rfl (by decide) ?_
      refine L.guardF (dj := 31) (c := true) rfl rfl rfl rfl rfl (by decide) ?_
      refine L.guardF (dj := 31) (c := true) rfl rfl rfl rfl rfl (by decide) ?_
      refine L.guardF (dj := 31) (c := true) rfl rfl rfl rfl rfl (by decide) ?_
      refine L.guardF (dj := 31) (c := true) rfl rfl rfl rfl rfl (by decide) ?_
      refine L.guardF (dj := 31) (c := true) rfl rfl rfl rfl rfl (by decide) ?_
      refine L.pickT rfl rfl rfl ?_
      refine L.nil ?_
      refine T.thenN ?_
      exact T.toJoin ⟨_, ⟨(fun h => by cases h), (fun h => by have := h.2.2.1; omega)⟩, rfl, rfl, rfl⟩ (.cons (t := 38) rfl <| SubK.nil _) (.cons (t := 1) rfl <| .cons (t := 4) rfl <| .cons (t := 5) rfl <| .cons (t := 6) rfl <| .cons (t := 12) rfl <| SubK.nil _) qD qD qF
    · skip
      have hgf : st[fr.toNat]? = some (gd st fr.toNat) := gd_get (by omega)
      refine T.region ?_
      refine L.move rfl rfl ?_
      refine L.notB rfl rfl ?_
      refine L.move rfl rfl ?_
      refine L.known (t := 17) rfl (show _ = Value.bool false from rfl) ?_
      refine L.guardT (dj := 17) rfl rfl rfl ?_
      refine L.move rfl rfl ?_
      refine L.guardT (dj := 17) rfl rfl rfl ?_
      first | refine L.field0 rfl fo46_0 rfl ?_ | refine L.field rfl fo46_0 rfl ?_
      refine L.guardT (dj := 17) rfl rfl rfl ?_
      refine L.load rfl sc9 rfl qC ?_
      refine L.guardT (dj := 17) rfl rfl rfl ?_
      refine L.neS rfl rfl rfl ?_
      refine L.pickF rfl rfl rfl ?_
      refine L.move rfl rfl ?_
      refine L.known (t := 23) rfl (show _ = Value.bool false from congrArg Value.bool (by rw [decide_eq_true h1]; rfl)) ?_
      refine L.guardT (dj := 23) rfl rfl rfl ?_
      refine L.move rfl rfl ?_
      refine L.guardT (dj := 23) rfl rfl rfl ?_
      refine L.ltI rfl rfl rfl ?_
      refine L.pickF rfl rfl rfl ?_
      refine L.move rfl rfl ?_
      refine L.known (t := 27) rfl (show _ = Value.bool false from congrArg Value.bool (decide_eq_false h2)) ?_
      refine L.guardT (dj := 27) rfl rfl rfl ?_
      refine L.move rfl rfl ?_
      refine L.guardT (dj := 27) rfl rfl rfl ?_
      refine L.gtI rfl rfl rfl ?_
      refine L.pickF rfl rfl rfl ?_
      refine L.move rfl rfl ?_
      refine L.known (t := 31) rfl (show _ = Value.bool false from congrArg Value.bool (decide_eq_false h3)) ?_
      refine L.guardT (dj := 31) rfl rfl rfl ?_
      first | refine L.field0 rfl fo46_2 rfl ?_ | refine L.field rfl fo46_2 rfl ?_
      refine L.guardT (dj := 31) rfl rfl rfl ?_
      refine L.load rfl sc22 rfl qC ?_
      refine L.guardT (dj := 31) rfl rfl rfl ?_
      refine L.move rfl rfl ?_
      refine L.guardT (dj := 31) rfl rfl rfl ?_
      refine L.idx (i := fr.toNat) rfl Try.underlying22 sz3 rfl rfl qM (by first | rfl | omega | (simp; done)) qG (fun b35 o35 => ?_)
      refine L.guardT (dj := 31) rfl rfl rfl ?_
      refine L.load rfl sc3 rfl qC ?_
      refine L.guardT (dj := 31) rfl rfl rfl ?_
      refine L.neI rfl rfl rfl ?_
      refine L.pickF rfl rfl rfl ?_
      refine L.nil ?_
      refine T.thenN ?_
      exact T.toJoin ⟨_, ⟨fun h => ⟨h1, by omega, by omega, by simpa using h⟩, fun h => decide_eq_false (fun e => e h.2.2.2)⟩, rfl, rfl, rfl⟩ (.cons (t := 38) rfl <| SubK.nil _) (.cons (t := 1) rfl <| .cons (t := 4) rfl <| .cons (t := 5) rfl <| .cons (t := 6) rfl <| .cons (t := 12) rfl <| SubK.nil _) qD qD qF
  rintro _ _ _ ⟨w, hw, rfl, rfl, rfl⟩
  refine T.norm3 qA qA qA ?_
  refine T.thenN ?_
  refine T.cond rfl (fun h38 => ?_) (fun h38 => ?_)
  · try simp only [decide_eq_true_eq, decide_eq_false_iff_not, Bool.not_eq_true', Bool.not_eq_false', Bool.and_eq_true, Bool.or_eq_true] at h38
    have hno : ¬ RAns g id st fr := fun e => by rw [hw.2 e] at h38; cases h38
    rw [if_neg hno, if_neg hno, decide_eq_false hno]
    refine T.seq ?_
    refine T.region ?_
    refine L.loadA rfl ag46 rfl qN ?_
    refine L.storeA ag46 rfl rfl qL qO qU qW ?_
    refine L.assign rfl rfl ?_
    refine L.nil ?_
    refine T.thenN ?_
    refine T.ret ?_
    refine T.thenR ?_
    exact T.retAT rfl ag46 rfl qN rfl ⟨p.1, p.2.2, rfl, rfl, rfl⟩ qD qF
  · try simp only [decide_eq_true_eq, decide_eq_false_iff_not, Bool.not_eq_true', Bool.not_eq_false', Bool.and_eq_true, Bool.or_eq_true] at h38
    have hyes := hw.1 h38
    rw [if_pos hyes, if_pos hyes, decide_eq_true hyes]
    have hf0 := hyes.2.1
    have hf1 := hyes.2.2.1
    refine T.skip ?_
    refine T.thenN ?_
    refine T.seq ?_
    refine T.region ?_
    refine L.buildSlice rfl bs22 (by decide) (BP.doneE (out := []) rfl) (fun b40 => ?_)
    refine L.toOwn (len := 0) qP (rows := []) (sz := 1) (by rfl) rfl (by simp) ?_
    first | refine L.field0 rfl fo46_2 rfl ?_ | refine L.field rfl fo46_2 rfl ?_
    refine L.load rfl sc22 rfl qC ?_
    refine L.appendR rfl Try.underlying22 Try.underlying22 el3 rfl rfl qP (rd_D qM) one_int qI qI (fun a43 c43 => ?_)
    refine L.assign rfl rfl ?_
    refine L.nil ?_
    simp only [Nat.zero_add, List.nil_append]
    refine T.ownNe qM (by omega) (fun ob oo ha => ?_)
    subst ha
    refine T.thenN ?_
    refine T.seq ?_
    refine T.region ?_
    refine L.move rfl rfl ?_
    refine L.move rfl rfl ?_
    refine L.idxG (i := fr.toNat) rfl Try.underlying22 sz3 rfl rfl (by first | rfl | omega | (simp; done)) qI ?_
    refine L.storeO (fr.toNat) sc3 rfl (by first | rfl | omega | (simp; done)) rfl rfl qP qI ?_
    refine L.nil ?_
    refine T.ownEq _ ((st.set fr.toNat 2).map e3) qP (by rw [List.map_set]) ?_
    refine T.ownRsl (rows := (st.set fr.toNat 2).map e3) qP ?_
    refine T.thenN ?_
    refine T.seq ?_
    refine T.region ?_
    refine L.move rfl rfl ?_
    first | refine L.field0 rfl fo46_2 rfl ?_ | refine L.field rfl fo46_2 rfl ?_
    refine L.store sc22 rfl rfl rfl qU qE ?_
    refine L.nil ?_
    refine T.thenN ?_
    refine T.seq ?_
    refine T.region ?_
    refine L.loadA rfl ag46 rfl qN ?_
    refine L.move rfl rfl ?_
    refine L.call rfl (evs.cons rfl <| evs.cons rfl <| evs.nil) qD qS (rmeet_spec (o := o) (p := ((some ⟨ob, oo, none⟩, c43), p.2)) (st := st.set fr.toNat 2) (ns := ps) hpl) ?_
    rintro _ _ _ ⟨ma, mc, rfl, rfl, rfl⟩
    refine L.norm qA qA ?_
    refine L.move rfl rfl ?_
    refine L.call rfl (evs.cons rfl <| evs.cons rfl <| evs.nil) qD qS (rhas_spec (o := o) (p := ((ma, mc), p.2)) (hv := hv) (ns := hs) (by omega)) ?_
    rintro _ _ _ ⟨ka, kc, rfl, rfl, rfl⟩
    refine L.norm qA qA ?_
    refine L.storeA ag46 rfl rfl qL qO qU qW ?_
    refine L.assign rfl rfl ?_
    refine L.nil ?_
    refine T.thenN ?_
    refine T.ret ?_
    exact T.retAT rfl ag46 rfl qN rfl ⟨(ma, mc), (ka, kc), rfl, rfl, rfl⟩ qD qF
set_option maxHeartbeats 400000 in
theorem rask_spec {g : List UInt8} {o : Int} {p : XP} {st si : List Int} {now : Int} (hg : g.length = 32) (hsib : ∀ j, -1000000 ≤ gd si j ∧ gd si j ≤ 1000000) (hnow : 0 ≤ now ∧ now ≤ 1000000) : Spec Try.prog 21 [.agg (xV g o p).toArray, .int .i64 now] [rsl 1 p.1.1 64 p.1.2 (st.map e3), rsl 1 p.2.1.1 64 p.2.1.2 (si.map e3)] [] (fun v D' M' => ∃ (q r : Option Addr × Nat) (a' : Option Addr) (n' c' : Nat) (st' si' out : List Int), v = .tuple #[.agg (xV g o (q, r, p.2.2)).toArray, .slice a' n' c'] ∧ ((raskF now ((srtG g (liveR (rlateF now si st 64) 64)).take 6) (rlateF now si st 64) si (oneR (rlateF now si st 64) 64) []) = (st', si', out)) ∧ (out.length = n') ∧ D' = [rsl 1 q.1 64 q.2 (st'.map e3), rsl 1 r.1 64 r.2 (si'.map e3)] ∧ M' = [own 1 3 a' n' c' ((out).map e3)]) := by
  refine Spec.intro (n := 86) Try.func21 rfl rfl (by decide) (Nat.le_of_ble_eq_true rfl) rfl (fun _ => qA) (fun _ => qA) ?_
  intro σ D M
  refine T.rslLen2 (rows := st.map e3) qM (fun hst hstc => ?_)
  rw [List.length_map] at hst
  refine T.rslLen2 (rows := si.map e3) qM (fun hsi hsic => ?_)
  rw [List.length_map] at hsi
  
  refine T.seq ?_
  refine T.region ?_
  refine L.box rfl rfl rfl (fun b2 => ?_)
  refine L.alloc rfl ze46 (fun b4 => ?_)
  refine L.assign rfl rfl ?_
  refine L.nil ?_
  refine T.thenN ?_
  refine T.seq ?_
  refine T.region ?_
  refine L.buildSlice rfl bs22 (by decide) (BP.doneE (out := []) rfl) (fun b13 => ?_)
  refine L.toOwn (len := 0) qP (rows := []) (sz := 1) (by rfl) rfl (by simp) ?_
  first | refine L.field0 rfl fo46_2 rfl ?_ | refine L.field rfl fo46_2 rfl ?_
  refine L.load rfl sc22 rfl qC ?_
  refine L.appendR rfl Try.underlying22 Try.underlying22 el3 rfl rfl qP (rd_D qM) one_int qI qI (fun a16 c16 => ?_)
  refine L.assign rfl rfl ?_
  refine L.nil ?_
  simp only [Nat.zero_add, List.nil_append]
  refine T.ownNe qM (by omega) (fun ob oo ha => ?_)
  subst ha
  refine T.thenN ?_
  refine T.seq ?_
  refine T.region ?_
  refine L.buildSlice rfl bs22 (by decide) (BP.doneE (out := []) rfl) (fun b17 => ?_)
  refine L.toOwn (len := 0) qP (rows := []) (sz := 1) (by rfl) rfl (by simp) ?_
  first | refine L.field0 rfl fo46_3 rfl ?_ | refine L.field rfl fo46_3 rfl ?_
  refine L.load rfl sc22 rfl qC ?_
  refine L.appendR rfl Try.underlying22 Try.underlying22 el3 rfl rfl qP (rd_D qM) one_int qI qI (fun a20 c20 => ?_)
  refine L.assign rfl rfl ?_
  refine L.nil ?_
  simp only [Nat.zero_add, List.nil_append]
  refine T.ownNe (a := a20) qM (by omega) (fun pb po ha => ?_)
  subst ha
  refine T.thenN ?_
  refine T.seq ?_
  refine T.region ?_
  refine L.assign rfl rfl ?_
  refine L.nil ?_
  refine T.thenN ?_
  refine T.seq ?_
  refine T.seq ?_
  refine T.region ?_
  refine L.assign rfl rfl ?_
  refine L.nil ?_
  refine T.thenN ?_
  refine T.block ?_
  refine T.eqv qP (show own 1 3 (some ⟨ob, oo, none⟩) 64 c16 ((st).map e3) = own 1 3 (some ⟨ob, oo, none⟩) 64 c16 ((rlateF now si st 0).map e3) from rfl) ?_
  refine T.loop (fun K' D' M' μ => ∃ (i b : Nat), (i ≤ 64 ∧ b = oneR (rlateF now si st i) i) ∧ K' = [(9, .int .i64 i), (8, .int .i64 (b : Int))] ∧ D' = [] ∧ M' = [own 1 3 (some ⟨ob, oo, none⟩) 64 c16 (((rlateF now si st i)).map e3)] ∧ μ = 64 - i) (.cons (t := 1) rfl <| .cons (t := 2) rfl <| .cons (t := 4) rfl <| .cons (t := 6) rfl <| .cons (t := 7) rfl <| SubK.nil _) (⟨0, 0, ⟨by omega, rfl⟩, rfl, rfl, rfl, rfl⟩) (.cons (t := 9) rfl <| .cons (t := 8) rfl <| SubK.nil _) qD qS ?_
  rintro K1 D1 M1 m1 ⟨i, b, ⟨hi, hb⟩, rfl, rfl, rfl, rfl⟩
  refine T.norm3 qA qA qA ?_
  refine T.seq ?_
  refine T.seq ?_
  refine T.region ?_
  refine L.move rfl rfl ?_
  refine L.ltI rfl rfl rfl ?_
  refine L.nil ?_
  refine T.thenN ?_
  refine T.cond rfl (fun h22 => ?_) (fun h22 => ?_)
  · try simp only [decide_eq_true_eq, decide_eq_false_iff_not, Bool.not_eq_true', Bool.not_eq_false', Bool.and_eq_true, Bool.or_eq_true] at h22
    have hcl : (rlateF now si st i).length = 64 := by rw [rlate_len, hst]
    obtain ⟨cs, hcs⟩ : ∃ cs, cs = (rlateF now si st i) := ⟨_, rfl⟩
    rw [← hcs] at hcl hb ⊢
    have hgc : cs[i]? = some (gd cs i) := gd_get (by omega)
    have hgs : si[i]? = some (gd si i) := gd_get (by omega)
    have hsb := hsib i
    have hbl := @oneR_le cs i
    have hnext : rlateF now si st (i + 1) = if gd cs i = 1 ∧ 8 ≤ now - gd si i then cs.set i 3 else cs := by rw [hcs]; rfl
    have hone := oneR_late (now := now) (si := si) hst (i := i) (by omega)
    rw [← hcs, ← hb] at hone
    refine T.skip ?_
    refine T.thenN ?_
    refine T.seq ?_
    refine T.block ?_
    refine T.seq ?_
    refine T.seq ?_
    refine T.cutC (fun K' D' M' => ∃ (w : Bool), (w = true ↔ (gd cs i = 1 ∧ 8 ≤ now - gd si i)) ∧ K' = [(38, .bool w)] ∧ D' = [] ∧ M' = [own 1 3 (some ⟨ob, oo, none⟩) 64 c16 ((cs).map e3), own 1 3 (some ⟨pb, po, none⟩) 64 c20 ((si).map e3)]) (M0 := [own 1 3 (some ⟨ob, oo, none⟩) 64 c16 ((cs).map e3), own 1 3 (some ⟨pb, po, none⟩) 64 c20 ((si).map e3)]) (.cons (t := 1) rfl <| .cons (t := 2) rfl <| .cons (t := 4) rfl <| .cons (t := 6) rfl <| .cons (t := 7) rfl <| .cons (t := 8) rfl <| .cons (t := 9) rfl <| SubK.nil _) qS ?_ ?_
    · skip
      rcases Decidable.em (gd cs i = 1) with hs | hs
      · skip
        refine T.region ?_
        refine L.move rfl rfl ?_
        refine L.move rfl rfl ?_
        refine L.idxG (i := i) rfl Try.underlying22 sz3 rfl rfl (by first | rfl | omega | (simp; done)) qI ?_
        refine L.load rfl sc3 rfl qC ?_
        refine L.eqI rfl rfl rfl ?_
        refine L.move rfl rfl ?_
        refine L.known (t := 30) rfl (show _ = Value.bool true from congrArg Value.bool (decide_eq_true hs)) ?_
        refine L.guardT (dj := 30) rfl rfl rfl ?_
        refine L.move rfl rfl ?_
        refine L.guardT (dj := 30) rfl rfl rfl ?_
        refine L.move rfl rfl ?_
        refine L.guardT (dj := 30) rfl rfl rfl ?_
        refine L.move rfl rfl ?_
        refine L.guardT (dj := 30) rfl rfl rfl ?_
        refine L.idxG (i := i) rfl Try.underlying22 sz3 rfl rfl (by first | rfl | omega | (simp; done)) qI ?_
        refine L.guardT (dj := 30) rfl rfl rfl ?_
        refine L.load rfl sc3 rfl qC ?_
        refine L.guardT (dj := 30) rfl rfl rfl ?_
        refine L.subN rfl rfl rfl (by omega) ?_
        refine L.guardT (dj := 30) rfl rfl rfl ?_
        refine L.geI rfl rfl rfl ?_
        refine L.pickT rfl rfl rfl ?_
        refine L.nil ?_
        refine T.thenN ?_
        exact T.toJoin ⟨_, (by rw [decide_eq_true_eq]; exact ⟨fun h => ⟨hs, h⟩, fun h => h.2⟩), rfl, rfl, rfl⟩ (.cons (t := 38) rfl <| SubK.nil _) (.cons (t := 1) rfl <| .cons (t := 2) rfl <| .cons (t := 4) rfl <| .cons (t := 6) rfl <| .cons (t := 7) rfl <| .cons (t := 8) rfl <| .cons (t := 9) rfl <| SubK.nil _) qD qD qF
      · skip
        refine T.region ?_
        refine L.move rfl rfl ?_
        refine L.move rfl rfl ?_
        refine L.idxG (i := i) rfl Try.underlying22 sz3 rfl rfl (by first | rfl | omega | (simp; done)) qI ?_
        refine L.load rfl sc3 rfl qC ?_
        refine L.eqI rfl rfl rfl ?_
        refine L.move rfl rfl ?_
        refine L.known (t := 30) rfl (show _ = Value.bool false from congrArg Value.bool (decide_eq_false hs)) ?_
        refine L.guardF (dj := 30) (c := false) rfl rfl rfl rfl rfl (by decide) ?_
        refine L.guardF (dj := 30) (c := false) rfl rfl rfl rfl rfl (by decide) ?_
        refine L.guardF (dj := 30) (c := false) rfl rfl rfl rfl rfl (by decide) ?_
        refine L.guardF (dj := 30) (c := false) rfl rfl rfl rfl rfl (by decide) ?_
        refine L.guardF (dj := 30) (c := false) rfl rfl rfl rfl rfl (by decide) ?_
        refine L.guardF (dj := 30) (c := false) rfl rfl rfl rfl rfl (by decide) ?_
        refine L.guardF (dj := 30) (c := false) rfl rfl rfl rfl rfl (by decide) ?_
        refine L.pickF rfl rfl rfl ?_
        refine L.nil ?_
        refine T.thenN ?_
        exact T.toJoin ⟨_, ⟨(fun h => by cases h), (fun h => absurd h.1 hs)⟩, rfl, rfl, rfl⟩ (.cons (t := 38) rfl <| SubK.nil _) (.cons (t := 1) rfl <| .cons (t := 2) rfl <| .cons (t := 4) rfl <| .cons (t := 6) rfl <| .cons (t := 7) rfl <| .cons (t := 8) rfl <| .cons (t := 9) rfl <| SubK.nil _) qD qD qF
    rintro _ _ _ ⟨w, hw, rfl, rfl, rfl⟩
    refine T.norm3 qA qA qA ?_
    refine T.thenN ?_
    refine T.cutC (fun K' D' M' => K' = [] ∧ D' = [] ∧ M' = [own 1 3 (some ⟨ob, oo, none⟩) 64 c16 ((rlateF now si st (i + 1)).map e3)]) (M0 := [own 1 3 (some ⟨ob, oo, none⟩) 64 c16 ((cs).map e3)]) (.cons (t := 1) rfl <| .cons (t := 2) rfl <| .cons (t := 4) rfl <| .cons (t := 6) rfl <| .cons (t := 7) rfl <| .cons (t := 8) rfl <| .cons (t := 9) rfl <| SubK.nil _) qS ?_ ?_
    · skip
      refine T.cond rfl (fun h38 => ?_) (fun h38 => ?_)
      · try simp only [decide_eq_true_eq, decide_eq_false_iff_not, Bool.not_eq_true', Bool.not_eq_false', Bool.and_eq_true, Bool.or_eq_true] at h38
        rw [hnext, if_pos (hw.1 h38), List.map_set]
        refine T.region ?_
        refine L.move rfl rfl ?_
        refine L.move rfl rfl ?_
        refine L.idxG (i := i) rfl Try.underlying22 sz3 rfl rfl (by first | rfl | omega | (simp; done)) qI ?_
        refine L.storeO (i) sc3 rfl (by first | rfl | omega | (simp; done)) rfl rfl qP qI ?_
        refine L.nil ?_
        refine T.thenN ?_
        exact T.toJoin ⟨rfl, rfl, rfl⟩ (SubK.nil _) (.cons (t := 1) rfl <| .cons (t := 2) rfl <| .cons (t := 4) rfl <| .cons (t := 6) rfl <| .cons (t := 7) rfl <| .cons (t := 8) rfl <| .cons (t := 9) rfl <| SubK.nil _) qD qD qF
      · try simp only [decide_eq_true_eq, decide_eq_false_iff_not, Bool.not_eq_true', Bool.not_eq_false', Bool.and_eq_true, Bool.or_eq_true] at h38
        rw [hnext, if_neg (fun e => by rw [hw.2 e] at h38; cases h38)]
        refine T.skip ?_
        refine T.thenN ?_
        exact T.toJoin ⟨rfl, rfl, rfl⟩ (SubK.nil _) (.cons (t := 1) rfl <| .cons (t := 2) rfl <| .cons (t := 4) rfl <| .cons (t := 6) rfl <| .cons (t := 7) rfl <| .cons (t := 8) rfl <| .cons (t := 9) rfl <| SubK.nil _) qD qD qF
    rintro _ _ _ ⟨rfl, rfl, rfl⟩
    refine T.norm3 qA qA qA ?_
    refine T.thenN ?_
    refine T.seq ?_
    obtain ⟨ct, hct⟩ : ∃ ct, ct = rlateF now si st (i + 1) := ⟨_, rfl⟩
    have hctl : ct.length = 64 := by rw [hct, rlate_len, hst]
    rw [← hct] at hone ⊢
    have hgt : ct[i]? = some (gd ct i) := gd_get (by omega)
    have hs := @oneR_s ct i
    rw [hone] at hs
    refine T.region ?_
    refine L.move rfl rfl ?_
    refine L.move rfl rfl ?_
    refine L.idxG (i := i) rfl Try.underlying22 sz3 rfl rfl (by first | rfl | omega | (simp; done)) qI ?_
    refine L.load rfl sc3 rfl qC ?_
    refine L.eqI rfl rfl rfl ?_
    refine L.nil ?_
    refine T.thenN ?_
    refine T.cond rfl (fun h46 => ?_) (fun h46 => ?_)
    · try simp only [decide_eq_true_eq, decide_eq_false_iff_not, Bool.not_eq_true', Bool.not_eq_false', Bool.and_eq_true, Bool.or_eq_true] at h46
      rw [if_pos h46] at hs
      refine T.region ?_
      refine L.move rfl rfl ?_
      refine L.addN rfl rfl rfl (by omega) ?_
      refine L.assign rfl rfl ?_
      refine L.nil ?_
      refine T.blkN ?_
      refine T.thenN ?_
      refine T.region ?_
      refine L.move rfl rfl ?_
      refine L.addN rfl rfl rfl (by omega) ?_
      refine L.assign rfl rfl ?_
      refine L.nil ?_
      refine T.thenN ?_
      rw [hct]
      exact T.back ⟨i + 1, b + 1, ⟨by omega, by rw [← hct, hs]⟩, rfl, rfl, rfl, rfl⟩ qI (.cons (t := 9) rfl <| .cons (t := 8) rfl <| SubK.nil _) (.cons (t := 1) rfl <| .cons (t := 2) rfl <| .cons (t := 4) rfl <| .cons (t := 6) rfl <| .cons (t := 7) rfl <| SubK.nil _) qD qD qF
    · try simp only [decide_eq_true_eq, decide_eq_false_iff_not, Bool.not_eq_true', Bool.not_eq_false', Bool.and_eq_true, Bool.or_eq_true] at h46
      rw [if_neg h46] at hs
      refine T.skip ?_
      refine T.blkN ?_
      refine T.thenN ?_
      refine T.region ?_
      refine L.move rfl rfl ?_
      refine L.addN rfl rfl rfl (by omega) ?_
      refine L.assign rfl rfl ?_
      refine L.nil ?_
      refine T.thenN ?_
      rw [hct]
      exact T.back ⟨i + 1, b, ⟨by omega, by rw [← hct, hs]; rfl⟩, rfl, rfl, rfl, rfl⟩ qI (.cons (t := 9) rfl <| .cons (t := 8) rfl <| SubK.nil _) (.cons (t := 1) rfl <| .cons (t := 2) rfl <| .cons (t := 4) rfl <| .cons (t := 6) rfl <| .cons (t := 7) rfl <| SubK.nil _) qD qD qF
  · try simp only [decide_eq_true_eq, decide_eq_false_iff_not, Bool.not_eq_true', Bool.not_eq_false', Bool.and_eq_true, Bool.or_eq_true] at h22
    obtain rfl : i = 64 := by omega
    refine T.exit ?_
    refine T.thenX ?_
    refine T.thenX ?_
    refine T.blkX ?_
    refine T.thenN ?_
    refine T.seq ?_
    refine T.region ?_
    refine L.move rfl rfl ?_
    first | refine L.field0 rfl fo46_2 rfl ?_ | refine L.field rfl fo46_2 rfl ?_
    refine L.store sc22 rfl rfl rfl qU qE ?_
    refine L.nil ?_
    refine T.thenN ?_
    refine T.seq ?_
    refine T.region ?_
    refine L.buildSlice rfl bs22 (by decide) (BP.doneE (out := []) rfl) (fun b51 => ?_)
    refine L.toOwn (len := 0) qP (rows := ([] : List Int).map e3) (sz := 1) (by rfl) rfl (by simp) ?_
    refine L.assign rfl rfl ?_
    refine L.nil ?_
    refine T.thenN ?_
    refine T.seq ?_
    refine T.seq ?_
    refine T.region ?_
    refine L.loadA rfl ag46 rfl qN ?_
    refine L.callB1 (A := own 1 3 (some ⟨ob, oo, none⟩) 64 c16 ((rlateF now si st 64).map e3)) rfl (evs.cons rfl <| evs.nil) qS qP (fun z H => rsl_of_own H) (rnear_spec (o := o) (p := ((some ⟨ob, oo, none⟩, c16), p.2)) (st := rlateF now si st 64) hg) ?_
    rintro _ _ _ ⟨na, nn, nc, rfl, hnn, rfl, rfl⟩
    refine L.norm AppL.nil qA ?_
    refine L.lenSl rfl Try.underlying22 rfl ?_
    refine L.move rfl rfl ?_
    refine L.nil ?_
    refine T.ownRsl (rows := ((srtG g (liveR (rlateF now si st 64) 64)).take 6).map e3) qP ?_
    obtain ⟨ys, hys⟩ : ∃ ys, ys = ((srtG g (liveR (rlateF now si st 64) 64)).take 6) := ⟨_, rfl⟩
    obtain ⟨s1, hs1⟩ : ∃ s1, s1 = rlateF now si st 64 := ⟨_, rfl⟩
    have hs1l : s1.length = 64 := by rw [hs1, rlate_len, hst]
    have hyl : ys.length = nn := by rw [hys, List.length_take, hnn]
    have hyr : ∀ n ∈ ys, 0 ≤ n ∧ n < 64 := fun n hn => by rw [hys] at hn; exact range_in (f := liveB (rlateF now si st 64)) (i := 64) (by omega) n (srtG_perm.mem_iff.1 (List.mem_of_mem_take hn))
    have hb64 : b ≤ 64 := by rw [hb]; exact oneR_le
    rw [← hys]
    rw [← hs1] at hb ⊢
    refine T.thenN ?_
    refine T.block ?_
    obtain ⟨b0, hb0⟩ : ∃ b0, b0 = b := ⟨_, rfl⟩
    refine T.loop (fun K' D' M' μ => ∃ (j b : Nat) (a10 : Option Addr) (n10 c10 : Nat) (sc ic out : List Int), ((j ≤ nn ∧ n10 ≤ j ∧ b ≤ 64) ∧ out.length = n10 ∧ sc.length = 64 ∧ ic.length = 64 ∧ raskF now (ys.drop j) sc ic b out = raskF now ys s1 si b0 []) ∧ K' = [(55, .int .i64 j), (8, .int .i64 (b : Int)), (10, .slice a10 n10 c10)] ∧ D' = [] ∧ M' = [own 1 3 (some ⟨ob, oo, none⟩) 64 c16 ((sc).map e3), own 1 3 (some ⟨pb, po, none⟩) 64 c20 ((ic).map e3), own 1 3 a10 n10 c10 ((out).map e3)] ∧ μ = nn - j) (.cons (t := 1) rfl <| .cons (t := 2) rfl <| .cons (t := 4) rfl <| .cons (t := 6) rfl <| .cons (t := 7) rfl <| .cons (t := 53) rfl <| .cons (t := 54) rfl <| SubK.nil _) (⟨0, b, _, 0, _, s1, si, [], ⟨⟨by omega, by omega, hb64⟩, rfl, hs1l, hsi, by rw [List.drop_zero, ← hb0]⟩, rfl, rfl, rfl, rfl⟩) (.cons (t := 55) rfl <| .cons (t := 8) rfl <| .cons (t := 10) rfl <| SubK.nil _) qD qS ?_
    rintro K1 D1 M1 m1 ⟨j, b, a10, n10, c10, sc, ic, out, ⟨⟨hj, hnj, hbb⟩, hol, hscl, hicl, hA⟩, rfl, rfl, rfl, rfl⟩
    refine T.norm3 qA qA qA ?_
    refine T.seq ?_
    refine T.region ?_
    refine L.ltI rfl rfl rfl ?_
    refine L.nil ?_
    refine T.thenN ?_
    refine T.seq ?_
    refine T.cond rfl (fun h56 => ?_) (fun h56 => ?_)
    · try simp only [decide_eq_true_eq, decide_eq_false_iff_not, Bool.not_eq_true', Bool.not_eq_false', Bool.and_eq_true, Bool.or_eq_true] at h56
      refine T.skip ?_
      refine T.thenN ?_
      refine T.seq ?_
      refine T.block ?_
      refine T.seq ?_
      have hgj : ys[j]? = some (gd ys j) := gd_get (by omega)
      obtain ⟨n, hn⟩ : ∃ x, x = gd ys j := ⟨_, rfl⟩
      rw [← hn] at hgj
      obtain ⟨hn0, hn64⟩ := hyr n (List.mem_of_getElem? hgj)
      have hgn : sc[n.toNat]? = some (gd sc n.toNat) := gd_get (by omega)
      refine T.region ?_
      refine L.idx (i := j) rfl Try.underlying22 sz3 rfl rfl qM (by first | rfl | omega | (simp; done)) qG (fun b57 o57 => ?_)
      refine L.load rfl sc3 rfl qC ?_
      refine L.assign rfl rfl ?_
      refine L.nil ?_
      refine T.thenN ?_
      refine T.seq ?_
      refine T.cutC (fun K' D' M' => ∃ (w : Bool), (w = true ↔ (gd sc n.toNat = 0 ∧ b < 3)) ∧ K' = [(67, .bool w)] ∧ D' = [] ∧ M' = [own 1 3 (some ⟨ob, oo, none⟩) 64 c16 ((sc).map e3)]) (M0 := [own 1 3 (some ⟨ob, oo, none⟩) 64 c16 ((sc).map e3)]) (.cons (t := 1) rfl <| .cons (t := 2) rfl <| .cons (t := 4) rfl <| .cons (t := 6) rfl <| .cons (t := 7) rfl <| .cons (t := 8) rfl <| .cons (t := 10) rfl <| .cons (t := 12) rfl <| .cons (t := 53) rfl <| .cons (t := 54) rfl <| .cons (t := 55) rfl <| SubK.nil _) qS ?_ ?_
      · skip
        rcases Decidable.em (gd sc n.toNat = 0) with hs | hs
        · skip
          refine T.region ?_
          refine L.move rfl rfl ?_
          refine L.move rfl rfl ?_
          refine L.idxG (i := n.toNat) rfl Try.underlying22 sz3 rfl rfl (by first | rfl | omega | (simp; done)) qI ?_
          refine L.load rfl sc3 rfl qC ?_
          refine L.eqI rfl rfl rfl ?_
          refine L.move rfl rfl ?_
          refine L.known (t := 64) rfl (show _ = Value.bool true from congrArg Value.bool (decide_eq_true hs)) ?_
          refine L.guardT (dj := 64) rfl rfl rfl ?_
          refine L.move rfl rfl ?_
          refine L.guardT (dj := 64) rfl rfl rfl ?_
          refine L.ltI rfl rfl rfl ?_
          refine L.pickT rfl rfl rfl ?_
          refine L.nil ?_
          refine T.thenN ?_
          exact T.toJoin ⟨_, (by rw [decide_eq_true_eq]; exact ⟨fun h => ⟨hs, by omega⟩, fun h => by omega⟩), rfl, rfl, rfl⟩ (.cons (t := 67) rfl <| SubK.nil _) (.cons (t := 1) rfl <| .cons (t := 2) rfl <| .cons (t := 4) rfl <| .cons (t := 6) rfl <| .cons (t := 7) rfl <| .cons (t := 8) rfl <| .cons (t := 10) rfl <| .cons (t := 12) rfl <| .cons (t := 53) rfl <| .cons (t := 54) rfl <| .cons (t := 55) rfl <| SubK.nil _) qD qD qF
        · skip
          refine T.region ?_
          refine L.move rfl rfl ?_
          refine L.move rfl rfl ?_
          refine L.idxG (i := n.toNat) rfl Try.underlying22 sz3 rfl rfl (by first | rfl | omega | (simp; done)) qI ?_
          refine L.load rfl sc3 rfl qC ?_
          refine L.eqI rfl rfl rfl ?_
          refine L.move rfl rfl ?_
          refine L.known (t := 64) rfl (show _ = Value.bool false from congrArg Value.bool (decide_eq_false hs)) ?_
          refine L.guardF (dj := 64) (c := false) rfl rfl rfl rfl rfl (by decide) ?_
          refine L.guardF (dj := 64) (c := false) rfl rfl rfl rfl rfl (by decide) ?_
          refine L.pickF rfl rfl rfl ?_
          refine L.nil ?_
          refine T.thenN ?_
          exact T.toJoin ⟨_, ⟨(fun h => by cases h), (fun h => absurd h.1 hs)⟩, rfl, rfl, rfl⟩ (.cons (t := 67) rfl <| SubK.nil _) (.cons (t := 1) rfl <| .cons (t := 2) rfl <| .cons (t := 4) rfl <| .cons (t := 6) rfl <| .cons (t := 7) rfl <| .cons (t := 8) rfl <| .cons (t := 10) rfl <| .cons (t := 12) rfl <| .cons (t := 53) rfl <| .cons (t := 54) rfl <| .cons (t := 55) rfl <| SubK.nil _) qD qD qF
      rintro _ _ _ ⟨w, hw, rfl, rfl, rfl⟩
      refine T.norm3 qA qA qA ?_
      refine T.thenN ?_
      refine T.cond rfl (fun h67 => ?_) (fun h67 => ?_)
      · try simp only [decide_eq_true_eq, decide_eq_false_iff_not, Bool.not_eq_true', Bool.not_eq_false', Bool.and_eq_true, Bool.or_eq_true] at h67
        have hy := hw.1 h67
        refine T.seq ?_
        refine T.region ?_
        refine L.move rfl rfl ?_
        refine L.move rfl rfl ?_
        refine L.idxG (i := n.toNat) rfl Try.underlying22 sz3 rfl rfl (by first | rfl | omega | (simp; done)) qI ?_
        refine L.storeO (n.toNat) sc3 rfl (by first | rfl | omega | (simp; done)) rfl rfl qP qI ?_
        refine L.nil ?_
        refine T.thenN ?_
        refine T.seq ?_
        refine T.region ?_
        refine L.move rfl rfl ?_
        refine L.move rfl rfl ?_
        refine L.move rfl rfl ?_
        refine L.idxG (i := n.toNat) rfl Try.underlying22 sz3 rfl rfl (by first | rfl | omega | (simp; done)) qI ?_
        refine L.storeO (n.toNat) sc3 rfl (by first | rfl | omega | (simp; done)) rfl rfl qP qI ?_
        refine L.nil ?_
        refine T.thenN ?_
        refine T.seq ?_
        refine T.region ?_
        refine L.move rfl rfl ?_
        refine L.addN rfl rfl rfl (by omega) ?_
        refine L.assign rfl rfl ?_
        refine L.nil ?_
        refine T.thenN ?_
        refine T.region ?_
        refine L.move rfl rfl ?_
        refine L.move rfl rfl ?_
        refine L.buildSlice rfl bs22 (by decide) (BP.one rfl rfl rfl <| BP.doneE (out := []) rfl) (fun b79 => ?_)
        refine L.append1 rfl Try.underlying22 el3 rfl rfl qP qM rfl qO1 qI qI (fun a80 c80 => ?_)
        refine L.assign rfl rfl ?_
        refine L.nil ?_
        refine T.blkN ?_
        refine T.thenN ?_
        refine T.region ?_
        refine L.addN rfl rfl rfl (by omega) ?_
        refine L.move rfl rfl ?_
        refine L.nil ?_
        refine T.thenN ?_
        refine T.ownEq (some ⟨ob, oo, none⟩) ((sc.set n.toNat 1).map e3) qP (by rw [List.map_set]) ?_
        refine T.ownEq (some ⟨pb, po, none⟩) ((ic.set n.toNat now).map e3) qP (by rw [List.map_set]) ?_
        refine T.ownEq a80 ((out ++ [n]).map e3) qP (by rw [List.map_append]; rfl) ?_
        exact T.back ⟨j + 1, b + 1, _, n10 + 1, _, sc.set n.toNat 1, ic.set n.toNat now, out ++ [n], ⟨⟨by omega, by omega, by omega⟩, by rw [List.length_append, hol]; rfl, by rw [List.length_set]; exact hscl, by rw [List.length_set]; exact hicl, by rw [raskF_drop hgj, if_pos hy] at hA; exact hA⟩, rfl, rfl, rfl, rfl⟩ qI (.cons (t := 55) rfl <| .cons (t := 8) rfl <| .cons (t := 10) rfl <| SubK.nil _) (.cons (t := 1) rfl <| .cons (t := 2) rfl <| .cons (t := 4) rfl <| .cons (t := 6) rfl <| .cons (t := 7) rfl <| .cons (t := 53) rfl <| .cons (t := 54) rfl <| SubK.nil _) qD qD qF
      · try simp only [decide_eq_true_eq, decide_eq_false_iff_not, Bool.not_eq_true', Bool.not_eq_false', Bool.and_eq_true, Bool.or_eq_true] at h67
        have hy : ¬ (gd sc n.toNat = 0 ∧ b < 3) := fun e => by rw [hw.2 e] at h67; cases h67
        refine T.skip ?_
        refine T.blkN ?_
        refine T.thenN ?_
        refine T.region ?_
        refine L.addN rfl rfl rfl (by omega) ?_
        refine L.move rfl rfl ?_
        refine L.nil ?_
        refine T.thenN ?_
        exact T.back ⟨j + 1, b, _, n10, _, sc, ic, out, ⟨⟨by omega, by omega, by omega⟩, hol, hscl, hicl, by rw [raskF_drop hgj, if_neg hy] at hA; exact hA⟩, rfl, rfl, rfl, rfl⟩ qI (.cons (t := 55) rfl <| .cons (t := 8) rfl <| .cons (t := 10) rfl <| SubK.nil _) (.cons (t := 1) rfl <| .cons (t := 2) rfl <| .cons (t := 4) rfl <| .cons (t := 6) rfl <| .cons (t := 7) rfl <| .cons (t := 53) rfl <| .cons (t := 54) rfl <| SubK.nil _) qD qD qF
    · try simp only [decide_eq_true_eq, decide_eq_false_iff_not, Bool.not_eq_true', Bool.not_eq_false', Bool.and_eq_true, Bool.or_eq_true] at h56
      obtain rfl : j = nn := by omega
      rw [List.drop_eq_nil_of_le (by omega)] at hA
      refine T.exit ?_
      refine T.thenX ?_
      refine T.thenX ?_
      refine T.blkX ?_
      refine T.thenN ?_
      refine T.seq ?_
      refine T.region ?_
      refine L.move rfl rfl ?_
      first | refine L.field0 rfl fo46_3 rfl ?_ | refine L.field rfl fo46_3 rfl ?_
      refine L.store sc22 rfl rfl rfl qU qE ?_
      refine L.nil ?_
      refine T.thenN ?_
      refine T.seq ?_
      refine T.region ?_
      refine L.loadA rfl ag46 rfl qN ?_
      refine L.move rfl rfl ?_
      refine L.storeA ag46 rfl rfl qL qO qU qW ?_
      refine L.assign rfl rfl ?_
      refine L.nil ?_
      refine T.thenN ?_
      refine T.ret ?_
      refine T.ownRsl (a := some ⟨ob, oo, none⟩) (rows := sc.map e3) qP ?_
      refine T.ownRsl (a := some ⟨pb, po, none⟩) (rows := ic.map e3) qP ?_
      exact T.retAT rfl ag46 rfl qN rfl ⟨(some ⟨ob, oo, none⟩, c16), (some ⟨pb, po, none⟩, c20), _, _, _, sc, ic, out, rfl, by rw [← hb, ← hb0, ← hA]; rfl, hol, rfl, rfl⟩ qD qF
set_option maxHeartbeats 400000 in
theorem rnew_spec {g : List UInt8} {o : Int} {a : Option Addr} {len cap : Nat} {ns : List Int} (hb : len ≤ 4611686018427387000) : Spec Try.prog 19 [S g, .int .i64 o, .slice a len cap] [rsl 1 a len cap (ns.map e3)] [] (fun v D' M' => ∃ (p : XP), v = .agg (xV g o p).toArray ∧ D' = [rsl 1 p.1.1 64 p.1.2 ((rmeetF o (List.replicate 64 (-1)) ns).map e3), rsl 1 p.2.1.1 64 p.2.1.2 ((List.replicate 64 0).map e3), rsl 1 p.2.2.1 64 p.2.2.2 ((List.replicate 64 false).map e4)] ∧ M' = []) := by
  refine Spec.intro (n := 34) Try.func19 rfl rfl (by decide) (Nat.le_of_ble_eq_true rfl) rfl (fun _ => qA) (fun _ => qA) ?_
  intro σ D M
  refine T.seq ?_
  refine T.region ?_
  refine L.alloc rfl ze46 (fun b6 => ?_)
  refine L.nil ?_
  refine T.thenN ?_
  refine T.seq ?_
  refine T.region ?_
  refine L.move rfl rfl ?_
  refine L.move rfl rfl ?_
  refine L.build rfl bu46 (BP.one rfl rfl rfl <| BP.one rfl rfl rfl <| BP.doneE (out := [Value.slice none 0 0, Value.slice none 0 0, Value.slice none 0 0]) rfl) ?_
  refine L.alloc rfl ze46 (fun b7 => ?_)
  refine L.storeA ag46 rfl rfl qL qO qU qW ?_
  refine L.nil ?_
  refine T.newOwn (sz := 1) (e := 3) ?_
  refine T.eqv qP (show own 1 3 none 0 0 [] = own 1 3 none 0 0 ((List.replicate 0 (-1)).map e3) from rfl) ?_
  refine T.newOwn (sz := 1) (e := 3) ?_
  refine T.eqv qP (show own 1 3 none 0 0 [] = own 1 3 none 0 0 ((List.replicate 0 0).map e3) from rfl) ?_
  refine T.newOwn (sz := 1) (e := 4) ?_
  refine T.eqv qP (show own 1 4 none 0 0 [] = own 1 4 none 0 0 ((List.replicate 0 false).map e4) from rfl) ?_
  refine T.thenN ?_
  refine T.seq ?_
  refine T.seq ?_
  refine T.region ?_
  refine L.assign rfl rfl ?_
  refine L.nil ?_
  refine T.thenN ?_
  refine T.block ?_
  refine T.loop (fun K' D' M' μ => ∃ (i : Nat) (a2 a3 a4 : Option Addr) (c2 c3 c4 : Nat), (i ≤ 64) ∧ K' = [(8, .int .i64 i)] ∧ D' = [] ∧ M' = [cl b7 46 [S g, .int .i64 o, .slice a2 i c2, .slice a3 i c3, .slice a4 i c4], own 1 3 a2 i c2 ((List.replicate i (-1)).map e3), own 1 3 a3 i c3 ((List.replicate i 0).map e3), own 1 4 a4 i c4 ((List.replicate i false).map e4)] ∧ μ = 64 - i) (.cons (t := 2) rfl <| .cons (t := 6) rfl <| .cons (t := 7) rfl <| SubK.nil _) (⟨0, none, none, none, 0, 0, 0, Nat.zero_le _, rfl, rfl, rfl, rfl⟩) (.cons (t := 8) rfl <| SubK.nil _) qD qS ?_
  rintro K1 D1 M1 m1 ⟨i, a2, a3, a4, c2, c3, c4, hi, rfl, rfl, rfl, rfl⟩
  refine T.norm3 qA qA qA ?_
  refine T.seq ?_
  refine T.seq ?_
  refine T.region ?_
  refine L.move rfl rfl ?_
  refine L.ltI rfl rfl rfl ?_
  refine L.nil ?_
  refine T.thenN ?_
  refine T.cond rfl (fun h13 => ?_) (fun h13 => ?_)
  · try simp only [decide_eq_true_eq, decide_eq_false_iff_not, Bool.not_eq_true', Bool.not_eq_false', Bool.and_eq_true, Bool.or_eq_true] at h13
    refine T.skip ?_
    refine T.thenN ?_
    refine T.seq ?_
    refine T.block ?_
    refine T.seq ?_
    refine T.region ?_
    first | refine L.field0 rfl fo46_2 rfl ?_ | refine L.field rfl fo46_2 rfl ?_
    refine L.load rfl sc22 rfl qC ?_
    refine L.buildSlice rfl bs22 (by decide) (BP.one rfl rfl rfl <| BP.doneE (out := []) rfl) (fun b18 => ?_)
    refine L.append1 rfl Try.underlying22 el3 rfl rfl qP qM rfl qO1 qI qI (fun a19 c19 => ?_)
    first | refine L.field0 rfl fo46_2 rfl ?_ | refine L.field rfl fo46_2 rfl ?_
    refine L.store sc22 rfl rfl rfl qU qE ?_
    refine L.nil ?_
    refine T.thenN ?_
    refine T.seq ?_
    refine T.region ?_
    first | refine L.field0 rfl fo46_3 rfl ?_ | refine L.field rfl fo46_3 rfl ?_
    refine L.load rfl sc22 rfl qC ?_
    refine L.buildSlice rfl bs22 (by decide) (BP.one rfl rfl rfl <| BP.doneE (out := []) rfl) (fun b23 => ?_)
    refine L.append1 rfl Try.underlying22 el3 rfl rfl qP qM rfl qO1 qI qI (fun a24 c24 => ?_)
    first | refine L.field0 rfl fo46_3 rfl ?_ | refine L.field rfl fo46_3 rfl ?_
    refine L.store sc22 rfl rfl rfl qU qE ?_
    refine L.nil ?_
    refine T.thenN ?_
    refine T.region ?_
    first | refine L.field0 rfl fo46_4 rfl ?_ | refine L.field rfl fo46_4 rfl ?_
    refine L.load rfl sc44 rfl qC ?_
    refine L.buildSlice rfl bs44 (by decide) (BP.one rfl rfl rfl <| BP.doneE (out := []) rfl) (fun b28 => ?_)
    refine L.append1 rfl Try.underlying44 el4 rfl rfl qP qM rfl qO1 qI qI (fun a29 c29 => ?_)
    first | refine L.field0 rfl fo46_4 rfl ?_ | refine L.field rfl fo46_4 rfl ?_
    refine L.store sc44 rfl rfl rfl qU qE ?_
    refine L.nil ?_
    refine T.blkN ?_
    refine T.thenN ?_
    refine T.region ?_
    refine L.move rfl rfl ?_
    refine L.addN rfl rfl rfl (by omega) ?_
    refine L.assign rfl rfl ?_
    refine L.nil ?_
    refine T.thenN ?_
    refine T.ownEq a19 ((List.replicate (i + 1) (-1)).map e3) qP (by rw [List.replicate_succ', List.map_append]; rfl) ?_
    refine T.ownEq a24 ((List.replicate (i + 1) 0).map e3) qP (by rw [List.replicate_succ', List.map_append]; rfl) ?_
    refine T.ownEq a29 ((List.replicate (i + 1) false).map e4) qP (by rw [List.replicate_succ', List.map_append]; rfl) ?_
    exact T.back ⟨i + 1, _, _, _, _, _, _, (by omega), rfl, rfl, rfl, rfl⟩ qI (.cons (t := 8) rfl <| SubK.nil _) (.cons (t := 2) rfl <| .cons (t := 6) rfl <| .cons (t := 7) rfl <| SubK.nil _) qD qD qF
  · try simp only [decide_eq_true_eq, decide_eq_false_iff_not, Bool.not_eq_true', Bool.not_eq_false', Bool.and_eq_true, Bool.or_eq_true] at h13
    obtain rfl : i = 64 := by omega
    refine T.exit ?_
    refine T.thenX ?_
    refine T.thenX ?_
    refine T.blkX ?_
    refine T.thenN ?_
    refine T.seq ?_
    refine T.ownRsl (a := a2) (rows := (List.replicate 64 (-1)).map e3) qP ?_
    refine T.ownRsl (a := a3) (rows := (List.replicate 64 0).map e3) qP ?_
    refine T.ownRsl (a := a4) (rows := (List.replicate 64 false).map e4) qP ?_
    refine T.region ?_
    refine L.loadA rfl ag46 rfl qN ?_
    refine L.move rfl rfl ?_
    refine L.call rfl (evs.cons rfl <| evs.cons rfl <| evs.nil) qD qS (rmeet_spec (o := o) (p := ((a2, c2), (a3, c3), (a4, c4))) (st := (List.replicate 64 (-1))) (ns := ns) hb) ?_
    rintro _ _ _ ⟨ma, mc, rfl, rfl, rfl⟩
    refine L.norm qA qA ?_
    refine L.storeA ag46 rfl rfl qL qO qU qW ?_
    refine L.nil ?_
    refine T.thenN ?_
    refine T.ret ?_
    exact T.retA rfl ag46 rfl qN ⟨((ma, mc), (a3, c3), (a4, c4)), rfl, rfl, rfl⟩ qD qF
end Cv
