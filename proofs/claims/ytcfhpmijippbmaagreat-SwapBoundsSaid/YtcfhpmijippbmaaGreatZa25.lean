/-
  The walks: answers that the document fixes.
-/
import Derived.Test.YtcfhpmijippbmaaGreatZ25
import Derived.Test.YtcfhpmijippbmaaGreatProg
import Derived.KernelRfl
set_option linter.unusedVariables false
set_option linter.unusedSimpArgs false
set_option linter.unusedSectionVars false
set_option maxRecDepth 10000
namespace Cv
open Go Go.Proofs
/-! ## what one asks, when it is one thing -/
theorem perm_one {α : Type} {a : α} {ys : List α} (h : ys.Perm [a]) : ys = [a] := List.perm_singleton.1 h
theorem perm_two {a b : Int} {ys : List Int} (h : ys.Perm [a, b]) : ys = [a, b] ∨ ys = [b, a] := by
  have hl := h.length_eq
  match ys, hl with
  | [x, y], _ =>
    have hx : x ∈ [a, b] := h.mem_iff.1 (by simp)
    simp only [List.mem_cons, List.not_mem_nil, or_false] at hx
    rcases hx with rfl | rfl
    · have := (List.perm_cons x).1 h
      rw [perm_one this]; exact .inl rfl
    · have := (List.perm_cons x).1 (h.trans (List.Perm.swap x a []))
      rw [perm_one this]; exact .inr rfl
theorem whom_one {F : Int → Mind} {hs : List Int} {now o n0 n : Int} {ol : List Ord} {lk : List (LK × Int)} {id : ID32} {ok : Bool} (hm : (hs.filter fun x => mayB F x now) = [n0]) (ho : okW o ol lk id n0 = true) (h : WhomR F hs now o ol lk id n ok) : ok = true ∧ n = n0 := by
  obtain ⟨ys, hp, _, h⟩ := h
  rw [hm] at hp
  rw [perm_one hp] at h
  simp [ho] at h
  exact ⟨h.1, h.2.symm⟩
theorem whom_two {F : Int → Mind} {hs : List Int} {now o p q n : Int} {ol : List Ord} {lk : List (LK × Int)} {id : ID32} {ok : Bool} (hm : (hs.filter fun x => mayB F x now) = [p, q]) (hlt : cfB F p q < 0) (ho : okW o ol lk id p = true) (h : WhomR F hs now o ol lk id n ok) : ok = true ∧ n = p := by
  obtain ⟨ys, hp, hs_, h⟩ := h
  rw [hm] at hp
  rcases perm_two hp with rfl | rfl
  · simp [ho] at h
    exact ⟨h.1, h.2.symm⟩
  · exact absurd hlt (hs_ 0 1 (by decide) (by simp))
theorem ask_one {F : Int → Mind} {hs : List Int} {now o n0 s s' : Int} (s1 : Int) (e1 : s1 = s + 1) {lk : List (LK × Int)} {w : Wnt} {ol' out : List Ord} (hw : ∀ n ok, WhomR F hs now o [] lk w.2.1 n ok → ok = true ∧ n = n0) (h : AskR F hs now o lk [w] [] s [] ol' s' out) : ol' = [(w, n0, s1, now)] ∧ s' = s1 ∧ out = [(w, n0, s1, now)] := by
  subst e1
  cases h with
  | stop h => simp at h
  | skip h1 h2 h3 =>
    rcases h2 with ⟨x, hx, _⟩ | ⟨n, hn⟩
    · simp at hx
    · exact absurd (hw _ _ hn).1 (by decide)
  | ask h1 h2 h3 h4 =>
    have := (hw _ _ h3).2
    subst this
    cases h4
    exact ⟨rfl, rfl, rfl⟩
theorem okw_nil {o n : Int} {id : ID32} (h : n ≠ o) : okW o [] [] id n = true := by
  unfold okW cntO
  exact decide_eq_true ⟨rfl, by simp, h⟩
theorem idxQ_one {p : Ord → Bool} {x : Ord} (h : p x = true) : idxQ p [x] = 0 := by
  have := idxQ_at (p := p) (xs := [x]) (k := 0) (x := x) (by simp) rfl h
  simpa using this
theorem blk_one {F : Int → Mind} {lk : List (LK × Int)} {fr sq m s now : Int} (hm : (chW m).2.2 = 3) : blkF F [(chW m, fr, sq, s)] lk fr sq (chI m) 1 (chT m) now = ((1, (chI m).1, chT m), 0, [], updM F fr (goodM (F fr)), lk) := by
  have hp : mB fr sq (chI m).1 1 (chW m, fr, sq, s) = true := by
    unfold mB chW
    exact decide_eq_true ⟨rfl, rfl, rfl, rfl⟩
  unfold blkF
  rw [idxQ_one hp, if_neg (by decide), if_neg (fun h => h (chI_eq m)), if_neg]
  · rfl
  · show ¬ (chW m).2.2 < _
    rw [hm]; exact (by simp [chT])
theorem blk_none {F : Int → Mind} {ol : List Ord} {lk : List (LK × Int)} {fr sq now what : Int} {id : ID32} {tx : List UInt8} (h : ∀ x ∈ ol, mB fr sq id.1 what x = false) : blkF F ol lk fr sq id what tx now = (zP, 7, ol, F, lk) := by
  unfold blkF
  rw [if_pos (by rw [idxQ_none h]; decide)]
def zF : Int → Mind := fun _ => zM
theorem may_z (n : Int) {now : Int} (h : 0 ≤ now) : mayB zF n now = true := by
  unfold mayB zF zM
  simpa using h
def sF (now : Int) : Int → Mind := updM zF 4 (silM (zF 4) now)
theorem sF_4 (now : Int) : (sF now 4).1 = -1 := by
  unfold sF
  rw [updM_at]
  rfl
theorem may_s4 {now : Int} (h : 0 ≤ now) : mayB (sF now) 4 now = false := by
  unfold mayB sF
  rw [updM_at]
  have : ¬ max (0 : Int) (now + 2) ≤ now := by omega
  show (true && decide (max (0 : Int) (now + 2) ≤ now)) = false
  rw [decide_eq_false this]; rfl
theorem may_s7 {now : Int} (h : 0 ≤ now) : mayB (sF now) 7 now = true := by
  unfold mayB sF
  rw [updM_ne (by decide)]
  exact may_z 7 h
theorem whom_3 {n : Int} {ok : Bool} {id : ID32} (h : WhomR zF [3] 0 1 [] [] id n ok) : ok = true ∧ n = 3 := whom_one (by simp [may_z]) (okw_nil (by decide)) h
theorem whom_4 {n now : Int} {ok : Bool} {id : ID32} (h0 : 0 ≤ now) (h : WhomR zF [4, 7] now 1 [] [] id n ok) : ok = true ∧ n = 4 := whom_two (q := 7) (by simp [may_z _ h0]) (by rw [cfB_lt]; exact .inr ⟨rfl, by decide⟩) (okw_nil (by decide)) h
theorem whom_7 {n now : Int} {ok : Bool} {id : ID32} (h0 : 0 ≤ now) (h : WhomR (sF now) [4, 7] now 1 [] [] id n ok) : ok = true ∧ n = 7 := whom_one (by simp [may_s4 h0, may_s7 h0]) (okw_nil (by decide)) h
theorem late_no {x : Ord} {now : Int} (h : now - x.2.2.2 < 6) : lateB now x = false := decide_eq_false (by omega)
theorem late_yes {x : Ord} {now : Int} (h : 6 ≤ now - x.2.2.2) : lateB now x = true := decide_eq_true h
theorem filO_no {x : Ord} {now : Int} (h : now - x.2.2.2 < 6) : ([x].filter fun x => !lateB now x) = [x] := by simp [late_no h]
theorem filO_yes {x : Ord} {now : Int} (h : 6 ≤ now - x.2.2.2) : ([x].filter fun x => !lateB now x) = [] := by simp [late_yes h]
theorem del_no {x : Ord} {now : Int} {F : Int → Mind} (h : now - x.2.2.2 < 6) : delS (lateB now) (silS now) F [x] = F := by simp [delS, late_no h]
theorem del_yes4 {w : Wnt} {s u now : Int} (h : 6 ≤ now - u) : delS (lateB now) (silS now) zF [(w, 4, s, u)] = sF now := by
  have := late_yes (x := (w, 4, s, u)) h
  simp [delS, this, silS, sF]
theorem lk_nil {now : Int} : (([] : List (LK × Int)).filter fun e => decide (now < e.2)) = [] := rfl
theorem in1000 (y : Int) : 0 ≤ (y.tmod 1000 + 1000).tmod 1000 ∧ (y.tmod 1000 + 1000).tmod 1000 < 1000 := by
  have h0 := Int.tmod_lt_of_pos (-y) (show (0 : Int) < 1000 by decide)
  rw [Int.neg_tmod] at h0
  exact ⟨Int.tmod_nonneg _ (by omega), Int.tmod_lt_of_pos _ (by decide)⟩
theorem tmod1000 (a : Int) : -1000 < a.tmod 1000 ∧ a.tmod 1000 < 1000 := by
  have h1 := Int.tmod_lt_of_pos a (show (0 : Int) < 1000 by decide)
  have := Int.tmod_lt_of_pos (-a) (show (0 : Int) < 1000 by decide)
  rw [Int.neg_tmod] at this
  omega
theorem mB_of {fr sq what : Int} {id : List UInt8} {x : Ord} (h : x.2.1 ≠ fr) : mB fr sq id what x = false := decide_eq_false (fun e => h e.1)
theorem zv29 : ∀ w, (zeroValue 29).run Tryz.prog w = .ok (Value.agg #[Value.int .i64 0, Value.int .i64 0]) w := fun w => by kernel_rfl
theorem bu29 : Bu Tryz.prog 29 [Value.int .i64 0, Value.int .i64 0] (fun (i : Nat) => ([(0, 1), (1, 1)] : List (Nat × Nat))[i]?) := bu_of Tryz.underlying29 zv29 rfl (fun w => by kernel_rfl)
theorem fo59_1 : Fo Tryz.prog 59 1 1 := fun a w => by kernel_rfl
theorem sc55 : Sc Tryz.prog 55 := fun w => ⟨by kernel_rfl, by kernel_rfl⟩
theorem sz77 : Sz Tryz.prog 77 40 := fun w => by kernel_rfl
theorem fo81_2 : Fo Tryz.prog 81 2 33 := fun a w => by kernel_rfl
set_option maxHeartbeats 400000 in
theorem awake25_spec   : Spec Tryz.prog 6 [] [] [] (fun v D' M' => v = .bool true ∧ D' = [] ∧ M' = []) := by
  refine Spec.intro (n := 108) Tryz.func6 rfl rfl (by decide) (Nat.le_of_ble_eq_true rfl) rfl (fun _ => qA) (fun _ => qA) ?_
  intro σ D M
  have hz34 : (pcells zP).length = 34 := by rfl
  have hi32 := (chI 0).2
  have hc32 := (chW 0).2.1.2
  have hw34 := wC_len (chW 0)
  have hp34 : (pcells (1, (chI 0).1, chT 0)).length = 34 := by simp [hi32]
  refine T.seq ?_
  refine T.region ?_
  refine L.assign rfl rfl ?_
  refine L.nil ?_
  refine T.thenN ?_
  refine T.seq ?_
  refine T.region ?_
  refine L.build rfl bu29 (BP.one rfl rfl rfl <| BP.one rfl rfl rfl <| BP.doneE (out := []) rfl) ?_
  refine L.call rfl (evs.cons rfl <| evs.cons rfl <| evs.nil) qD qS (wnew_spec) ?_
  rintro _ _ _ ⟨b, bb, q, lm, rfl, rfl, rfl⟩
  refine L.norm qA qA ?_
  refine L.eqv qP (show bookA bb (fun _ => zM) = bookA bb zF from rfl) ?_
  refine L.move rfl rfl ?_
  refine L.extract rfl rfl rfl ?_
  refine L.extract rfl rfl rfl ?_
  refine L.assign rfl rfl ?_
  refine L.assign rfl rfl ?_
  refine L.nil ?_
  refine T.thenN ?_
  refine T.seq ?_
  refine T.seq ?_
  refine T.region ?_
  refine L.move rfl rfl ?_
  refine L.neI rfl rfl rfl ?_
  refine L.move rfl rfl ?_
  refine L.known (t := 18) rfl (show _ = Value.bool false from rfl) ?_
  refine L.guardT (dj := 18) rfl rfl rfl ?_
  refine L.move rfl rfl ?_
  refine L.guardT (dj := 18) rfl rfl rfl ?_
  refine L.eqlPtr rfl Tryz.underlying24 rfl rfl ?_
  refine L.pickF rfl rfl rfl ?_
  refine L.move rfl rfl ?_
  refine L.known (t := 22) rfl (show _ = Value.bool false from rfl) ?_
  refine L.guardT (dj := 22) rfl rfl rfl ?_
  refine L.move rfl rfl ?_
  refine L.guardT (dj := 22) rfl rfl rfl ?_
  refine L.nilCheck rfl rfl ?_
  refine L.guardT (dj := 22) rfl rfl rfl ?_
  first | refine L.field0 rfl fo59_0 rfl ?_ | refine L.field rfl fo59_0 rfl ?_
  refine L.guardT (dj := 22) rfl rfl rfl ?_
  refine L.load rfl sc54 rfl qC ?_
  refine L.guardT (dj := 22) rfl rfl rfl ?_
  refine L.eqlPtr rfl Tryz.underlying54 rfl rfl ?_
  refine L.pickF rfl rfl rfl ?_
  refine L.move rfl rfl ?_
  refine L.known (t := 29) rfl (show _ = Value.bool false from rfl) ?_
  refine L.guardT (dj := 29) rfl rfl rfl ?_
  refine L.move rfl rfl ?_
  refine L.guardT (dj := 29) rfl rfl rfl ?_
  refine L.nilCheck rfl rfl ?_
  refine L.guardT (dj := 29) rfl rfl rfl ?_
  first | refine L.field0 rfl fo59_1 rfl ?_ | refine L.field rfl fo59_1 rfl ?_
  refine L.guardT (dj := 29) rfl rfl rfl ?_
  refine L.load rfl sc55 rfl qC ?_
  refine L.guardT (dj := 29) rfl rfl rfl ?_
  refine L.eqlPtr rfl Tryz.underlying55 rfl rfl ?_
  refine L.pickF rfl rfl rfl ?_
  refine L.nil ?_
  refine T.thenN ?_
  refine T.condF rfl rfl ?_
  refine T.skip ?_
  refine T.thenN ?_
  refine T.seq ?_
  refine T.region ?_
  refine L.callF rfl (evs.cons rfl <| evs.nil) qD qS (chunk_spec (n := 0)) (by rintro u D1 M1 ⟨rfl, rfl, rfl⟩; exact ⟨rfl, _, qA, qF⟩) ?_
  rw [show n20 0 = 0 from rfl]
  refine L.move rfl rfl ?_
  refine L.extract rfl rfl rfl ?_
  refine L.extract rfl rfl rfl ?_
  refine L.alloc rfl ze52 (fun b3 => ?_)
  refine L.alloc rfl ze81 (fun b4 => ?_)
  refine L.storeA ag52 rfl rfl qL qO qU qW ?_
  refine L.storeA ag81 rfl rfl qL qO qU qW ?_
  refine L.nil ?_
  refine T.thenN ?_
  refine T.seq ?_
  refine T.region ?_
  refine L.move rfl rfl ?_
  refine L.buildSlice rfl bs39 (by decide) (BP.one rfl rfl rfl <| BP.doneE (out := []) rfl) (fun b41 => ?_)
  refine L.toOwn (len := 1) qP (rows := [(3 : Int)].map e3) (sz := 1) (by rfl) rfl (by first | (simp; done) | (simp [hc32]; done)) ?_
  refine L.ownRsl qP ?_
  refine L.loadA rfl ag52 rfl qN ?_
  refine L.buildSlice rfl bs42 (by decide) (BP.agg rfl rfl (by first | with_reducible assumption | (simp; done) | (simp only [List.length_map]; with_reducible assumption) | (simp [*]; done) | rfl) (Nat.le_of_ble_eq_true rfl) qR <| BP.doneE (out := []) rfl) (fun b43 => ?_)
  refine L.toOwn (len := 1) qP (rows := [chW 0].map wC) (sz := 34) (by rfl) rfl (by first | (simp; done) | (simp [hc32]; done)) ?_
  refine L.ownRsl qP ?_
  refine L.call rfl (evs.cons rfl <| evs.cons rfl <| evs.cons rfl <| evs.cons rfl <| evs.nil) qD qS (askW_spec (b := b) (bb := bb) (q := q) (lm := lm) (o := 1) (F := zF) (lk := []) (ol := []) (hs := [3]) (ws := [chW 0]) (now := 0) (by decide) (by decide) (by decide) (by decide)) ?_
  rintro _ _ _ ⟨la, oa, ln, lc, on, oc, sq1, ol, out, rfl, hA, hln, hon, rfl, rfl⟩
  refine L.norm qA qA ?_
  obtain ⟨rfl, rfl, rfl⟩ := ask_one 1 rfl (fun n ok h => whom_3 h) hA
  obtain rfl : ln = 1 := hln.symm
  obtain rfl : on = 1 := hon.symm
  refine L.assign rfl rfl ?_
  refine L.nil ?_
  refine T.thenN ?_
  refine T.seq ?_
  refine T.seq ?_
  refine T.ownNe (a := la) qM (by decide) (fun pl po hla => ?_)
  subst hla
  have hg0 : ([((chW 0, 3, 1, 0) : Ord)].map (lR 1))[0]? = some (lR 1 (chW 0, 3, 1, 0)) := rfl
  refine T.region ?_
  refine L.move rfl rfl ?_
  refine L.lenSl rfl Tryz.underlying72 rfl ?_
  refine L.neI rfl rfl rfl ?_
  refine L.move rfl rfl ?_
  refine L.known (t := 48) rfl (show _ = Value.bool false from rfl) ?_
  refine L.guardT (dj := 48) rfl rfl rfl ?_
  refine L.move rfl rfl ?_
  refine L.guardT (dj := 48) rfl rfl rfl ?_
  refine L.idxG (i := 0) rfl Tryz.underlying72 sz77 rfl rfl (by first | rfl | omega | (simp; done)) qI ?_
  refine L.guardT (dj := 48) rfl rfl rfl ?_
  first | refine L.field0 rfl fo77_2 rfl ?_ | refine L.field rfl fo77_2 rfl ?_
  refine L.guardT (dj := 48) rfl rfl rfl ?_
  refine L.load rfl sc3 rfl qC ?_
  refine L.guardT (dj := 48) rfl rfl rfl ?_
  refine L.neI rfl rfl rfl ?_
  refine L.pickF rfl rfl rfl ?_
  refine L.move rfl rfl ?_
  refine L.known (t := 55) rfl (show _ = Value.bool false from rfl) ?_
  refine L.guardT (dj := 55) rfl rfl rfl ?_
  refine L.move rfl rfl ?_
  refine L.guardT (dj := 55) rfl rfl rfl ?_
  refine L.idxG (i := 0) rfl Tryz.underlying72 sz77 rfl rfl (by first | rfl | omega | (simp; done)) qI ?_
  refine L.guardT (dj := 55) rfl rfl rfl ?_
  first | refine L.field0 rfl fo77_3 rfl ?_ | refine L.field rfl fo77_3 rfl ?_
  refine L.guardT (dj := 55) rfl rfl rfl ?_
  refine L.load rfl sc3 rfl qC ?_
  refine L.guardT (dj := 55) rfl rfl rfl ?_
  refine L.neI rfl rfl rfl ?_
  refine L.pickF rfl rfl rfl ?_
  refine L.move rfl rfl ?_
  refine L.known (t := 62) rfl (show _ = Value.bool false from rfl) ?_
  refine L.guardT (dj := 62) rfl rfl rfl ?_
  refine L.move rfl rfl ?_
  refine L.guardT (dj := 62) rfl rfl rfl ?_
  refine L.call rfl (evs.cons rfl <| evs.nil) qD qS (open_spec (F := zF) (lk := []) (by decide)) ?_
  rintro _ _ _ ⟨wa, wl, wc, rfl, hwl, rfl, rfl⟩
  refine L.norm qA qA ?_
  obtain rfl : wl = 1 := hwl.symm
  refine L.guardT (dj := 62) rfl rfl rfl ?_
  refine L.lenSl rfl Tryz.underlying42 rfl ?_
  refine L.guardT (dj := 62) rfl rfl rfl ?_
  refine L.neI rfl rfl rfl ?_
  refine L.pickF rfl rfl rfl ?_
  refine L.nil ?_
  refine T.thenN ?_
  refine T.condF rfl rfl ?_
  refine T.skip ?_
  refine T.thenN ?_
  refine T.seq ?_
  refine T.region ?_
  refine L.move rfl rfl ?_
  refine L.idxG (i := 0) rfl Tryz.underlying72 sz77 rfl rfl (by first | rfl | omega | (simp; done)) qI ?_
  refine L.loadA rfl ag77 rfl qN ?_
  refine L.callF rfl (evs.cons rfl <| evs.cons rfl <| evs.nil) qD qS (reply8_spec hi32) (by rintro u D1 M1 ⟨rfl, rfl, rfl⟩; exact ⟨rfl, _, qA, qF⟩) ?_
  have hl40 : (letV 8 3 1 1 (chI 0).1 1 [] none 0 0 none 0 0).length = 40 := letV_len hi32
  refine L.alloc rfl ze77 (fun b6 => ?_)
  refine L.storeA ag77 rfl rfl qL qO qU qW ?_
  refine L.nil ?_
  refine T.thenN ?_
  refine T.seq ?_
  refine T.region ?_
  first | refine L.field0 rfl fo81_2 rfl ?_ | refine L.field rfl fo81_2 rfl ?_
  refine L.load rfl sc9 rfl qC ?_
  first | refine L.field0 rfl fo77_6 rfl ?_ | refine L.field rfl fo77_6 rfl ?_
  refine L.store sc9 rfl rfl rfl qU qE ?_
  refine L.nil ?_
  refine T.thenN ?_
  refine T.seq ?_
  refine T.region ?_
  refine L.move rfl rfl ?_
  refine L.loadA rfl ag77 rfl qN ?_
  refine L.call rfl (evs.cons rfl <| evs.cons rfl <| evs.cons rfl <| evs.nil) qD qS (blk_spec (b := b) (bb := bb) (q := q) (lm := lm) (o := 1) (sq := 1) (F := zF) (lk := []) (ol := [(chW 0, 3, 1, 0)]) (fr := 3) (to_ := 1) (sq_ := 1) (what := 1) (id := chI 0) (tx := chT 0) (now := 0) (by decide) (by decide) (by decide) (by decide)) ?_
  rintro _ _ _ ⟨r, oa2, on2, oc2, rfl, hr, hon2, rfl, rfl⟩
  refine L.norm qA qA ?_
  obtain rfl := hr.trans (blk_one (by rfl))
  obtain rfl : on2 = 0 := hon2.symm
  refine L.move rfl rfl ?_
  refine L.extract rfl rfl rfl ?_
  refine L.extract rfl rfl rfl ?_
  refine L.alloc rfl ze81 (fun b7 => ?_)
  refine L.storeA ag81 rfl rfl qL qO qU qW ?_
  refine L.assign rfl rfl ?_
  refine L.nil ?_
  refine T.thenN ?_
  refine T.seq ?_
  refine T.region ?_
  refine L.move rfl rfl ?_
  refine L.loadA rfl ag77 rfl qN ?_
  refine L.call rfl (evs.cons rfl <| evs.cons rfl <| evs.cons rfl <| evs.nil) qD qS (blk_spec (b := b) (bb := bb) (q := q) (lm := lm) (o := 1) (sq := 1) (F := (updM zF 3 (goodM (zF 3)))) (lk := []) (ol := []) (fr := 3) (to_ := 1) (sq_ := 1) (what := 1) (id := chI 0) (tx := chT 0) (now := 0) (by decide) (by decide) (by decide) (by decide)) ?_
  rintro _ _ _ ⟨r, oa3, on3, oc3, rfl, hr, hon3, rfl, rfl⟩
  refine L.norm qA qA ?_
  obtain rfl := hr.trans (blk_none (by simp))
  obtain rfl : on3 = 0 := hon3.symm
  refine L.move rfl rfl ?_
  refine L.extract rfl rfl rfl ?_
  refine L.extract rfl rfl rfl ?_
  refine L.alloc rfl ze81 (fun b9 => ?_)
  refine L.storeA ag81 rfl rfl qL qO qU qW ?_
  refine L.assign rfl rfl ?_
  refine L.nil ?_
  refine T.thenN ?_
  refine T.seq ?_
  refine T.region ?_
  refine L.move rfl rfl ?_
  refine L.eqI rfl rfl rfl ?_
  refine L.move rfl rfl ?_
  refine L.known (t := 89) rfl (show _ = Value.bool true from rfl) ?_
  refine L.guardT (dj := 89) rfl rfl rfl ?_
  first | refine L.field0 rfl fo81_1 rfl ?_ | refine L.field rfl fo81_1 rfl ?_
  refine L.guardT (dj := 89) rfl rfl rfl ?_
  refine L.loadA rfl ag50 rfl qN ?_
  refine L.guardT (dj := 89) rfl rfl rfl ?_
  first | refine L.field0 rfl fo81_1 rfl ?_ | refine L.field rfl fo81_1 rfl ?_
  refine L.guardT (dj := 89) rfl rfl rfl ?_
  refine L.loadA rfl ag50 rfl qN ?_
  refine L.guardT (dj := 89) rfl rfl rfl ?_
  refine L.eqlArrI (by kernel_rfl) rfl Tryz.underlying50 Tryz.underlying5 sc5 rfl rfl qL qL ?_
  refine L.pickT rfl rfl rfl ?_
  refine L.move rfl rfl ?_
  refine L.known (t := 96) rfl (show _ = Value.bool true from congrArg Value.bool (decide_eq_true rfl)) ?_
  refine L.guardT (dj := 96) rfl rfl rfl ?_
  refine L.move rfl rfl ?_
  refine L.guardT (dj := 96) rfl rfl rfl ?_
  refine L.eqI rfl rfl rfl ?_
  refine L.pickT rfl rfl rfl ?_
  refine L.move rfl rfl ?_
  refine L.known (t := 100) rfl (show _ = Value.bool true from rfl) ?_
  refine L.guardT (dj := 100) rfl rfl rfl ?_
  refine L.move rfl rfl ?_
  refine L.guardT (dj := 100) rfl rfl rfl ?_
  refine L.nilCheck rfl rfl ?_
  refine L.guardT (dj := 100) rfl rfl rfl ?_
  first | refine L.field0 rfl fo59_0 rfl ?_ | refine L.field rfl fo59_0 rfl ?_
  refine L.guardT (dj := 100) rfl rfl rfl ?_
  refine L.load rfl sc54 rfl qC ?_
  refine L.guardT (dj := 100) rfl rfl rfl ?_
  refine L.callF rfl (evs.cons rfl <| evs.cons rfl <| evs.nil) qD qS (score_spec) (by rintro u D1 M1 ⟨rfl, rfl, rfl⟩; exact ⟨rfl, _, qA, qF⟩) ?_
  refine L.guardT (dj := 100) rfl rfl rfl ?_
  refine L.eqI rfl rfl rfl ?_
  refine L.pickT rfl rfl rfl ?_
  refine L.assign rfl rfl ?_
  refine L.nil ?_
  refine T.thenN ?_
  refine T.ret ?_
  exact T.ret1 rfl rfl ⟨rfl, rfl, rfl⟩ qD qF
end Cv
