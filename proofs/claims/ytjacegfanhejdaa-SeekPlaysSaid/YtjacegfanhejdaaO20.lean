/-
  The walks: awake.
-/
import Derived.Test.YtjacegfanhejdaaN20
import Derived.Test.YtjacegfanhejdaaCvLe
import Derived.Test.YtjacegfanhejdaaCvLb
import Derived.Test.YtjacegfanhejdaaProg
import Derived.KernelRfl
set_option linter.unusedVariables false
set_option linter.unusedSimpArgs false
set_option linter.unusedSectionVars false
set_option maxRecDepth 10000
namespace Cv
open Go Go.Proofs
/-! ## the answers that the document fixes -/
@[irreducible] def g1 : List UInt8 := 1 :: List.replicate 31 0
theorem g1_eq : g1 = 1 :: List.replicate 31 0 := by unfold g1; rfl
theorem g1_len : g1.length = 32 := by rw [g1_eq]; rfl
theorem sorted0 {cf : Int → Int → Int} {xs ys : List Int} (h : SortedBy cf xs ys) (e : xs = []) : ys = [] := by subst e; exact h.1.eq_nil
theorem sorted1 {cf : Int → Int → Int} {xs ys : List Int} {x : Int} (h : SortedBy cf xs ys) (e : xs = [x]) : ys = [x] := by subst e; exact List.perm_singleton.1 h.1
theorem perm_one {xs ys : List Int} {x : Int} (h : xs.Perm ys) (e : ys = [x]) : xs = [x] := by subst e; exact List.perm_singleton.1 h
theorem aw_meet : meetF 0 [] [3, 0, 99] = [(3, (0, 0))] := by decide
theorem aw_ask {l2 : OfM} {out : List Int} (h : askF 5 (3 - (cntS (lateF 5 [(3, (0, 0))]) 1 : Int)) (([3] : List Int).take 6) (lateF 5 [(3, (0, 0))]) [] = (l2, out)) : l2 = [(3, (1, 5))] ∧ out = [3] := by
  have e : askF 5 (3 - (cntS (lateF 5 [(3, (0, 0))]) 1 : Int)) (([3] : List Int).take 6) (lateF 5 [(3, (0, 0))]) [] = ([(3, (1, 5))], [3]) := by decide
  rw [e] at h
  cases h
  exact ⟨rfl, rfl⟩
theorem aw_ans : Answ g1 [(3, (1, 5))] 4 3 g1 := ⟨by decide, rfl, rfl⟩
theorem aw_hear : meetF 0 (put [(3, (1, 5))] 3 (2, inO [(3, (1, 5))] 3)) [] = [(3, (2, 5))] := by decide
theorem aw_have : hearF 0 [] [7, 0] = [(7, 1)] := by decide
theorem aw_meet0 {o : Int} : meetF o [] [] = [] := rfl
theorem bua27 : Bu Try.prog 27 [Value.int .u8 0, Value.int .u8 0, Value.int .u8 0, Value.int .u8 0, Value.int .u8 0, Value.int .u8 0, Value.int .u8 0, Value.int .u8 0, Value.int .u8 0, Value.int .u8 0, Value.int .u8 0, Value.int .u8 0, Value.int .u8 0, Value.int .u8 0, Value.int .u8 0, Value.int .u8 0, Value.int .u8 0, Value.int .u8 0, Value.int .u8 0, Value.int .u8 0, Value.int .u8 0, Value.int .u8 0, Value.int .u8 0, Value.int .u8 0, Value.int .u8 0, Value.int .u8 0, Value.int .u8 0, Value.int .u8 0, Value.int .u8 0, Value.int .u8 0, Value.int .u8 0, Value.int .u8 0] (fun (i : Nat) => some (i * 1, 1)) := bua_of Try.underlying27 zv27 rfl sz5
theorem zv38 : ∀ w, (zeroValue 38).run Try.prog w = .ok (Value.agg #[Value.int .i64 0, Value.int .i64 0, Value.int .i64 0, Value.int .i64 0, Value.int .u8 0, Value.int .u8 0, Value.int .u8 0, Value.int .u8 0, Value.int .u8 0, Value.int .u8 0, Value.int .u8 0, Value.int .u8 0, Value.int .u8 0, Value.int .u8 0, Value.int .u8 0, Value.int .u8 0, Value.int .u8 0, Value.int .u8 0, Value.int .u8 0, Value.int .u8 0, Value.int .u8 0, Value.int .u8 0, Value.int .u8 0, Value.int .u8 0, Value.int .u8 0, Value.int .u8 0, Value.int .u8 0, Value.int .u8 0, Value.int .u8 0, Value.int .u8 0, Value.int .u8 0, Value.int .u8 0, Value.int .u8 0, Value.int .u8 0, Value.int .u8 0, Value.int .u8 0, Value.int .i64 0, S [], Value.slice none 0 0, Value.slice none 0 0]) w := fun w => by kernel_rfl
theorem bu38 : Bu Try.prog 38 (Value.int .i64 0 :: Value.int .i64 0 :: Value.int .i64 0 :: Value.int .i64 0 :: Value.int .u8 0 :: Value.int .u8 0 :: Value.int .u8 0 :: Value.int .u8 0 :: Value.int .u8 0 :: Value.int .u8 0 :: Value.int .u8 0 :: Value.int .u8 0 :: Value.int .u8 0 :: Value.int .u8 0 :: Value.int .u8 0 :: Value.int .u8 0 :: Value.int .u8 0 :: Value.int .u8 0 :: Value.int .u8 0 :: Value.int .u8 0 :: Value.int .u8 0 :: Value.int .u8 0 :: Value.int .u8 0 :: Value.int .u8 0 :: Value.int .u8 0 :: Value.int .u8 0 :: Value.int .u8 0 :: Value.int .u8 0 :: Value.int .u8 0 :: Value.int .u8 0 :: Value.int .u8 0 :: Value.int .u8 0 :: Value.int .u8 0 :: Value.int .u8 0 :: Value.int .u8 0 :: Value.int .u8 0 :: Value.int .i64 0 :: S [] :: Value.slice none 0 0 :: Value.slice none 0 0 :: []) (fun (i : Nat) => ([(0, 1), (1, 1), (2, 1), (3, 1), (4, 32), (36, 1), (37, 1), (38, 1), (39, 1)] : List (Nat × Nat))[i]?) := bu_of Try.underlying38 zv38 rfl (fun w => by kernel_rfl)
set_option maxHeartbeats 1000000 in
theorem awake_spec   : Spec Try.prog 7 [] [] [] (fun v D' M' => v = .bool true ∧ D' = [] ∧ M' = []) := by
  refine Spec.intro (n := 62) Try.func7 rfl rfl (by decide) (Nat.le_of_ble_eq_true rfl) rfl (fun _ => qA) (fun _ => qA) ?_
  intro σ D M
  have hg1 := g1_len
  refine T.seq ?_
  refine T.region ?_
  refine L.assign rfl rfl ?_
  refine L.nil ?_
  refine T.thenN ?_
  refine T.seq ?_
  refine T.region ?_
  refine L.build rfl bua27 (BP.one rfl rfl rfl <| BP.doneE (out := (Value.int .u8 0 :: Value.int .u8 0 :: Value.int .u8 0 :: Value.int .u8 0 :: Value.int .u8 0 :: Value.int .u8 0 :: Value.int .u8 0 :: Value.int .u8 0 :: Value.int .u8 0 :: Value.int .u8 0 :: Value.int .u8 0 :: Value.int .u8 0 :: Value.int .u8 0 :: Value.int .u8 0 :: Value.int .u8 0 :: Value.int .u8 0 :: Value.int .u8 0 :: Value.int .u8 0 :: Value.int .u8 0 :: Value.int .u8 0 :: Value.int .u8 0 :: Value.int .u8 0 :: Value.int .u8 0 :: Value.int .u8 0 :: Value.int .u8 0 :: Value.int .u8 0 :: Value.int .u8 0 :: Value.int .u8 0 :: Value.int .u8 0 :: Value.int .u8 0 :: Value.int .u8 0 :: [])) rfl) ?_
  refine L.known (t := 6) (u := .agg (g1.map Y).toArray) rfl (by rw [g1_eq]; rfl) ?_
  refine L.fact0 (φ := rsl 1 none 0 0 (([] : List Int).map e3)) (fun z => rsl_nil) ?_
  refine L.call rfl (evs.cons rfl <| evs.cons rfl <| evs.cons rfl <| evs.nil) qD qS (snew_spec (g := g1) (o := 0) (ns := []) g1_len (by decide)) ?_
  rintro _ _ _ ⟨sb, sm1, sm2, rfl, rfl, rfl⟩
  refine L.norm qA qA ?_
  refine L.assign rfl rfl ?_
  refine L.nil ?_
  rw [aw_meet0]
  refine T.thenN ?_
  refine T.seq ?_
  refine T.region ?_
  refine L.build rfl bua27 (BP.one rfl rfl rfl <| BP.doneE (out := (Value.int .u8 0 :: Value.int .u8 0 :: Value.int .u8 0 :: Value.int .u8 0 :: Value.int .u8 0 :: Value.int .u8 0 :: Value.int .u8 0 :: Value.int .u8 0 :: Value.int .u8 0 :: Value.int .u8 0 :: Value.int .u8 0 :: Value.int .u8 0 :: Value.int .u8 0 :: Value.int .u8 0 :: Value.int .u8 0 :: Value.int .u8 0 :: Value.int .u8 0 :: Value.int .u8 0 :: Value.int .u8 0 :: Value.int .u8 0 :: Value.int .u8 0 :: Value.int .u8 0 :: Value.int .u8 0 :: Value.int .u8 0 :: Value.int .u8 0 :: Value.int .u8 0 :: Value.int .u8 0 :: Value.int .u8 0 :: Value.int .u8 0 :: Value.int .u8 0 :: Value.int .u8 0 :: [])) rfl) ?_
  refine L.known (t := 8) (u := .agg (g1.map Y).toArray) rfl (by rw [g1_eq]; rfl) ?_
  refine L.buildSlice rfl bs22 (by decide) (BP.one rfl rfl rfl <| BP.one rfl rfl rfl <| BP.one rfl rfl rfl <| BP.doneE (out := []) rfl) (fun b9 => ?_)
  refine L.toOwn (len := 3) (sz := 1) (e := 3) (rows := ([3, 0, 99] : List Int).map e3) qP (by rfl) rfl (by simp) ?_
  refine L.ownRsl qP ?_
  refine L.call rfl (evs.cons rfl <| evs.cons rfl <| evs.cons rfl <| evs.nil) qD qS (snew_spec (g := g1) (o := 0) (ns := [3, 0, 99]) g1_len (by decide)) ?_
  rintro _ _ _ ⟨tb, tm1, tm2, rfl, rfl, rfl⟩
  refine L.norm qA qA ?_
  refine L.assign rfl rfl ?_
  refine L.nil ?_
  rw [aw_meet]
  refine T.thenN ?_
  refine T.seq ?_
  refine T.seq ?_
  refine T.region ?_
  refine L.move rfl rfl ?_
  refine L.eqlPtr rfl Try.underlying24 rfl rfl ?_
  refine L.move rfl rfl ?_
  refine L.known (t := 13) rfl (show _ = Value.bool false from rfl) ?_
  refine L.guardT (dj := 13) rfl rfl rfl ?_
  refine L.move rfl rfl ?_
  refine L.guardT (dj := 13) rfl rfl rfl ?_
  refine L.eqlPtr rfl Try.underlying24 rfl rfl ?_
  refine L.pickF rfl rfl rfl ?_
  refine L.move rfl rfl ?_
  refine L.known (t := 17) rfl (show _ = Value.bool false from rfl) ?_
  refine L.guardT (dj := 17) rfl rfl rfl ?_
  refine L.move rfl rfl ?_
  refine L.guardT (dj := 17) rfl rfl rfl ?_
  refine L.call rfl (evs.cons rfl <| evs.nil) qD qS (over_spec (g := g1) (o := 0) (m1 := sm1) (m2 := sm2) (lo := []) g1_len (by decide)) ?_
  rintro _ _ _ ⟨ys1, rfl, hs1, rfl, rfl⟩
  refine L.norm qA qA ?_
  obtain rfl := sorted0 hs1 rfl
  refine L.guardT (dj := 17) rfl rfl rfl ?_
  refine L.notB rfl rfl ?_
  refine L.pickF rfl rfl rfl ?_
  refine L.move rfl rfl ?_
  refine L.known (t := 22) rfl (show _ = Value.bool false from rfl) ?_
  refine L.guardT (dj := 22) rfl rfl rfl ?_
  refine L.move rfl rfl ?_
  refine L.guardT (dj := 22) rfl rfl rfl ?_
  refine L.call rfl (evs.cons rfl <| evs.nil) qD qS (over_spec (g := g1) (o := 0) (m1 := tm1) (m2 := tm2) (lo := [(3, (0, 0))]) g1_len (by decide)) ?_
  rintro _ _ _ ⟨ys2, rfl, hs2, rfl, rfl⟩
  refine L.norm qA qA ?_
  obtain rfl := sorted1 (x := 3) hs2 (by decide)
  refine L.pickF rfl rfl rfl ?_
  refine L.nil ?_
  refine T.thenN ?_
  refine T.condF rfl rfl ?_
  refine T.skip ?_
  refine T.thenN ?_
  refine T.seq ?_
  refine T.region ?_
  refine L.move rfl rfl ?_
  refine L.call rfl (evs.cons rfl <| evs.cons rfl <| evs.nil) qD qS (ask_spec (g := g1) (o := 0) (m1 := tm1) (m2 := tm2) (lo := [(3, (0, 0))]) (now := 5) g1_len (by decide) (fun p hp => by simp at hp; subst hp; decide) (by decide)) ?_
  rintro _ _ _ ⟨la, ln, lc, ys, lout, l2, rfl, hs4, hA, hln, rfl, rfl⟩
  refine L.norm qA qA ?_
  obtain rfl := sorted1 (x := 3) hs4 (by decide)
  obtain ⟨rfl, rfl⟩ := aw_ask hA
  refine L.assign rfl rfl ?_
  refine L.nil ?_
  refine T.ownRsl (rows := ([3] : List Int).map e3) qP ?_
  refine T.thenN ?_
  refine T.seq ?_
  refine T.region ?_
  refine L.move rfl rfl ?_
  refine L.build rfl bua27 (BP.one rfl rfl rfl <| BP.doneE (out := (Value.int .u8 0 :: Value.int .u8 0 :: Value.int .u8 0 :: Value.int .u8 0 :: Value.int .u8 0 :: Value.int .u8 0 :: Value.int .u8 0 :: Value.int .u8 0 :: Value.int .u8 0 :: Value.int .u8 0 :: Value.int .u8 0 :: Value.int .u8 0 :: Value.int .u8 0 :: Value.int .u8 0 :: Value.int .u8 0 :: Value.int .u8 0 :: Value.int .u8 0 :: Value.int .u8 0 :: Value.int .u8 0 :: Value.int .u8 0 :: Value.int .u8 0 :: Value.int .u8 0 :: Value.int .u8 0 :: Value.int .u8 0 :: Value.int .u8 0 :: Value.int .u8 0 :: Value.int .u8 0 :: Value.int .u8 0 :: Value.int .u8 0 :: Value.int .u8 0 :: Value.int .u8 0 :: [])) rfl) ?_
  refine L.known (t := 29) (u := .agg (g1.map Y).toArray) rfl (by rw [g1_eq]; rfl) ?_
  refine L.buildSlice rfl bs22 (by decide) (BP.one rfl rfl rfl <| BP.one rfl rfl rfl <| BP.doneE (out := []) rfl) (fun b30 => ?_)
  refine L.toOwn (len := 2) (sz := 1) (e := 3) (rows := ([7, 0] : List Int).map e3) qP (by rfl) rfl (by simp) ?_
  refine L.ownRsl qP ?_
  refine L.build rfl bu38 (BP.one rfl rfl rfl <| BP.one rfl rfl rfl <| BP.skip <| BP.skip <| BP.agg rfl rfl (by first | with_reducible assumption | (simp; done) | (simp only [List.length_map]; with_reducible assumption) | (simp [*]; done) | rfl) (Nat.le_of_ble_eq_true rfl) qR <| BP.skip <| BP.skip <| BP.skip <| BP.one rfl rfl rfl <| BP.doneE (out := []) rfl) ?_
  refine L.known (t := 31) (u := .agg (letV 4 3 0 0 g1 0 [] none 0 0 (some ⟨b30, 0, none⟩) 2 2).toArray) rfl rfl ?_
  refine L.call rfl (evs.cons rfl <| evs.cons rfl <| evs.nil) qD qS (hear_spec (g := g1) (o := 0) (m1 := tm1) (m2 := tm2) (lo := [(3, (1, 5))]) (lh := []) (kind := 4) (fr := 3) (to_ := 0) (sq := 0) (what := 0) (id := g1) (tx := []) (pa := none) (pl := 0) (pc := 0) (ps := []) (hs := [7, 0]) g1_len g1_len (by decide) (by decide)) ?_
  rintro _ _ _ ⟨rfl, rfl, rfl⟩
  refine L.norm qA qA ?_
  rw [if_pos aw_ans, if_pos aw_ans, aw_hear, aw_have]
  refine L.assign rfl rfl ?_
  refine L.nil ?_
  refine T.thenN ?_
  refine T.seq ?_
  refine T.region ?_
  refine L.move rfl rfl ?_
  refine L.call rfl (evs.cons rfl <| evs.nil) qD qS (holders_spec (g := g1) (o := 0) (m1 := tm1) (m2 := tm2) (lh := [(7, 1)]) g1_len (by decide)) ?_
  rintro _ _ _ ⟨ha, hn, hc, xs7, rfl, hp7, hx7, rfl, rfl⟩
  refine L.norm qA qA ?_
  obtain rfl := perm_one (x := 7) hp7 rfl
  refine L.assign rfl rfl ?_
  refine L.nil ?_
  rw [List.mergeSort_singleton]
  refine T.ownRsl (rows := ([7] : List Int).map e3) qP ?_
  refine T.thenN ?_
  refine T.seq ?_
  have hl0 : ([3] : List Int)[0]? = some 3 := rfl
  have hh0 : ([7] : List Int)[0]? = some 7 := rfl
  refine T.region ?_
  refine L.move rfl rfl ?_
  refine L.lenSl rfl Try.underlying22 rfl ?_
  refine L.eqI rfl rfl rfl ?_
  refine L.move rfl rfl ?_
  refine L.known (t := 38) rfl (show _ = Value.bool true from congrArg Value.bool (decide_eq_true (by rw [← hln]; rfl))) ?_
  refine L.guardT (dj := 38) rfl rfl rfl ?_
  refine L.move rfl rfl ?_
  refine L.guardT (dj := 38) rfl rfl rfl ?_
  refine L.idx (i := 0) rfl Try.underlying22 sz3 rfl rfl qM (by first | rfl | omega | (simp; done)) qG (fun b40 o40 => ?_)
  refine L.guardT (dj := 38) rfl rfl rfl ?_
  refine L.load rfl sc3 rfl qC ?_
  refine L.guardT (dj := 38) rfl rfl rfl ?_
  refine L.eqI rfl rfl rfl ?_
  refine L.pickT rfl rfl rfl ?_
  refine L.move rfl rfl ?_
  refine L.known (t := 44) rfl (show _ = Value.bool true from rfl) ?_
  refine L.guardT (dj := 44) rfl rfl rfl ?_
  refine L.move rfl rfl ?_
  refine L.pickT rfl rfl rfl ?_
  refine L.move rfl rfl ?_
  refine L.known (t := 47) rfl (show _ = Value.bool true from congrArg Value.bool (decide_eq_true aw_ans)) ?_
  refine L.guardT (dj := 47) rfl rfl rfl ?_
  refine L.move rfl rfl ?_
  refine L.guardT (dj := 47) rfl rfl rfl ?_
  refine L.call rfl (evs.cons rfl <| evs.nil) qD qS (over_spec (g := g1) (o := 0) (m1 := tm1) (m2 := tm2) (lo := [(3, (2, 5))]) g1_len (by decide)) ?_
  rintro _ _ _ ⟨ys3, rfl, hs3, rfl, rfl⟩
  refine L.norm qA qA ?_
  obtain rfl := sorted1 (x := 3) hs3 (by decide)
  refine L.pickT rfl rfl rfl ?_
  refine L.move rfl rfl ?_
  refine L.known (t := 51) rfl (show _ = Value.bool true from rfl) ?_
  refine L.guardT (dj := 51) rfl rfl rfl ?_
  refine L.move rfl rfl ?_
  refine L.guardT (dj := 51) rfl rfl rfl ?_
  refine L.lenSl rfl Try.underlying22 rfl ?_
  refine L.guardT (dj := 51) rfl rfl rfl ?_
  refine L.eqI rfl rfl rfl ?_
  refine L.pickT rfl rfl rfl ?_
  refine L.move rfl rfl ?_
  refine L.known (t := 56) rfl (show _ = Value.bool true from congrArg Value.bool (decide_eq_true (by rw [← hx7]; rfl))) ?_
  refine L.guardT (dj := 56) rfl rfl rfl ?_
  refine L.move rfl rfl ?_
  refine L.guardT (dj := 56) rfl rfl rfl ?_
  refine L.idx (i := 0) rfl Try.underlying22 sz3 rfl rfl qM (by first | rfl | omega | (simp; done)) qG (fun b58 o58 => ?_)
  refine L.guardT (dj := 56) rfl rfl rfl ?_
  refine L.load rfl sc3 rfl qC ?_
  refine L.guardT (dj := 56) rfl rfl rfl ?_
  refine L.eqI rfl rfl rfl ?_
  refine L.pickT rfl rfl rfl ?_
  refine L.assign rfl rfl ?_
  refine L.nil ?_
  refine T.thenN ?_
  refine T.ret ?_
  exact T.ret1 rfl rfl ⟨rfl, rfl, rfl⟩ qD qF
end Cv
