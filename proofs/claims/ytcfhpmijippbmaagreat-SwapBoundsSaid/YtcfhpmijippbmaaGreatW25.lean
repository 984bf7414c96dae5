/-
  The walks: of whom one asks.
-/
import Derived.Test.YtcfhpmijippbmaaGreatL25
import Derived.Test.YtcfhpmijippbmaaGreatProg
import Derived.KernelRfl
set_option linter.unusedVariables false
set_option linter.unusedSimpArgs false
set_option linter.unusedSectionVars false
set_option maxRecDepth 10000
namespace Cv
open Go Go.Proofs
/-! ## of whom one asks -/
def cntO (L : List Ord) (n : Int) : Nat := (L.filter fun x => decide (x.2.1 = n)).length
theorem cntO_s {L : List Ord} {j : Nat} {x : Ord} {n : Int} (h : L[j]? = some x) : cntO (L.take (j + 1)) n = cntO (L.take j) n + if x.2.1 = n then 1 else 0 := by
  unfold cntO
  rw [List.take_add_one, h, List.filter_append, List.length_append]
  congr 1
  by_cases e : x.2.1 = n
  · simp [e]
  · simp [e]
theorem cntO_le {L : List Ord} {n : Int} : cntO L n ≤ L.length := List.length_filter_le _ _
def okW (o : Int) (L : List Ord) (lk : List (LK × Int)) (id : ID32) (y : Int) : Bool := decide (look lk (y, id) = none ∧ cntO L y < 4 ∧ y ≠ o)
def WhomR (F : Int → Mind) (hs : List Int) (now o : Int) (L : List Ord) (lk : List (LK × Int)) (id : ID32) (n : Int) (ok : Bool) : Prop :=
  ∃ ys, ys.Perm (hs.filter fun x => mayB F x now) ∧ SortTo (cfB F) ys ys.length ∧ ((ok = true ∧ ys.find? (okW o L lk id) = some n) ∨ (ok = false ∧ ys.find? (okW o L lk id) = none))
theorem find_s {α : Type} {p : α → Bool} {ys : List α} {i : Nat} {y : α} (h : ∀ z ∈ ys.take i, p z = false) (hy : ys[i]? = some y) (hp : p y = false) : ∀ z ∈ ys.take (i + 1), p z = false := fun z hz => by
  rw [List.take_add_one, hy] at hz
  rcases List.mem_append.1 hz with e | e
  · exact h z e
  · simp at e; rw [e]; exact hp
@[reducible] def lR (o : Int) (x : Ord) : List Value := letV 7 o x.2.1 x.2.2.1 x.1.2.1.1 x.1.1 [] none 0 0 none 0 0
theorem lR_len {o : Int} {x : Ord} : (lR o x).length = 40 := letV_len x.1.2.1.2
theorem one_let {o : Int} {x : Ord} : ∀ u ∈ lR o x, u.oneCell' = true := fun u hu => by
  simp only [lR, letV, List.mem_cons, List.mem_append, List.mem_map, List.not_mem_nil, or_false] at hu
  rcases hu with rfl | rfl | rfl | rfl | ⟨b, _, rfl⟩ | rfl | rfl | rfl | rfl <;> rfl
theorem one_ord1 {x : Ord} : ∀ u ∈ oC x, u.oneCell' = true := fun u hu => one_ord (l := [x]) u (by simpa using hu)
inductive AskR (F : Int → Mind) (hs : List Int) (now o : Int) (lk : List (LK × Int)) : List Wnt → List Ord → Int → List Ord → List Ord → Int → List Ord → Prop
  | nil {L s out} : AskR F hs now o lk [] L s out L s out
  | stop {w ws L s out} : 8 ≤ L.length → AskR F hs now o lk (w :: ws) L s out L s out
  | skip {w ws L s out L' s' out'} : L.length < 8 → ((∃ x ∈ L, x.1.2.1.1 = w.2.1.1) ∨ ∃ n, WhomR F hs now o L lk w.2.1 n false) → AskR F hs now o lk ws L s out L' s' out' → AskR F hs now o lk (w :: ws) L s out L' s' out'
  | ask {w ws L s out L' s' out' n} : L.length < 8 → (∀ x ∈ L, x.1.2.1.1 ≠ w.2.1.1) → WhomR F hs now o L lk w.2.1 n true → AskR F hs now o lk ws (L ++ [(w, n, s + 1, now)]) (s + 1) (out ++ [(w, n, s + 1, now)]) L' s' out' → AskR F hs now o lk (w :: ws) L s out L' s' out'
theorem drop_cons {α : Type} {l : List α} {i : Nat} {x : α} (h : l[i]? = some x) : l.drop i = x :: l.drop (i + 1) := by
  have hi := (List.getElem?_eq_some_iff.1 h).1
  rw [List.drop_eq_getElem_cons hi]; congr 1; exact (List.getElem?_eq_some_iff.1 h).2
theorem idxQ_ge {α : Type} [Inhabited α] {p : α → Bool} {xs : List α} : 0 ≤ idxQ p xs ↔ ∃ x ∈ xs, p x = true := by
  unfold idxQ
  by_cases h : xs.any p = true
  · rw [if_pos h]
    exact ⟨fun _ => List.any_eq_true.1 h, fun _ => Int.natCast_nonneg _⟩
  · rw [if_neg h]
    exact ⟨fun h => by omega, fun e => absurd (List.any_eq_true.2 e) h⟩
theorem okw_cases (o : Int) (L : List Ord) (lk : List (LK × Int)) (id : ID32) (y : Int) : ¬ look lk (y, id) = none ∨ (look lk (y, id) = none ∧ ¬ cntO L y < 4) ∨ (look lk (y, id) = none ∧ cntO L y < 4) := by
  by_cases h1 : look lk (y, id) = none
  · by_cases h2 : cntO L y < 4
    · exact .inr (.inr ⟨h1, h2⟩)
    · exact .inr (.inl ⟨h1, h2⟩)
  · exact .inl h1
theorem specAllM {P : Program} {f : FuncId} {args : List Value} {M0 M1 : List Asn} {v : Value} (h : Spec P f args [] M0 (fun u D' M' => u = v ∧ D' = [] ∧ M' = M1)) : Spec P f args [] [all M0] (fun u D' M' => u = v ∧ D' = [] ∧ M' = [all M1]) where
  fn := h.fn
  run σ D M w t := (h.run σ D M w (t.ent Ent.unfold)).mono (by
    rintro e w' ⟨u, D', M', he, ⟨rfl, rfl, rfl⟩, hs⟩
    exact ⟨u, [], [_], he, ⟨rfl, rfl, rfl⟩, hs.ent Ent.fold⟩)
def mB (fr sq : Int) (id : List UInt8) (what : Int) (x : Ord) : Bool := decide (x.2.1 = fr ∧ x.2.2.1 = sq ∧ x.1.2.1.1 = id ∧ x.1.1 = what)
theorem m_cases (fr sq : Int) (id : List UInt8) (x : Ord) : ¬ x.2.1 = fr ∨ (x.2.1 = fr ∧ ¬ x.2.2.1 = sq) ∨ (x.2.1 = fr ∧ x.2.2.1 = sq ∧ ¬ x.1.2.1.1 = id) ∨ (x.2.1 = fr ∧ x.2.2.1 = sq ∧ x.1.2.1.1 = id) := by
  by_cases h1 : x.2.1 = fr
  · by_cases h2 : x.2.2.1 = sq
    · by_cases h3 : x.1.2.1.1 = id
      · exact .inr (.inr (.inr ⟨h1, h2, h3⟩))
      · exact .inr (.inr (.inl ⟨h1, h2, h3⟩))
    · exact .inr (.inl ⟨h1, h2⟩)
  · exact .inl h1
theorem idxQ_nat {p : Ord → Bool} {ol : List Ord} (h : ¬ idxQ p ol < 0) : ∃ i : Nat, idxQ p ol = (i : Int) ∧ i < ol.length := by
  have hne : ¬ idxQ p ol = -1 := fun e => h (by omega)
  obtain ⟨k, hk, hl, _⟩ := idxQ_k hne
  exact ⟨k, hk, hl⟩
abbrev BlkR := PF × Int × List Ord × (Int → Mind) × List (LK × Int)
def blkF (F : Int → Mind) (ol : List Ord) (lk : List (LK × Int)) (fr sq : Int) (id : ID32) (what : Int) (tx : List UInt8) (now : Int) : BlkR :=
  if idxQ (mB fr sq id.1 what) ol < 0 then (zP, 7, ol, F, lk) else
  if oidF what tx ≠ id.1 then (zP, 3, ol.eraseIdx (idxQ (mB fr sq id.1 what) ol).toNat, banB F fr (what, id.1, tx), lk) else
  if (gd ol (idxQ (mB fr sq id.1 what) ol).toNat).1.2.2 < tx.length then (zP, 5, ol.eraseIdx (idxQ (mB fr sq id.1 what) ol).toNat, F, Cv.put lk (fr, id) (now + 12)) else
  ((what, id.1, tx), 0, ol.eraseIdx (idxQ (mB fr sq id.1 what) ol).toNat, updM F fr (goodM (F fr)), lk)
def lateB (now : Int) (x : Ord) : Bool := decide (6 ≤ now - x.2.2.2)
def silS (now : Int) (F : Int → Mind) (x : Ord) : Int → Mind := updM F x.2.1 (silM (F x.2.1) now)
/-- those that lack it: who is over goes -/
def keepK (lk : List (LK × Int)) (now : Int) (rest : List LK) : List (LK × Int) := lk.filter fun e => decide (e.1 ∈ rest) || decide (now < e.2)
theorem keep_nd {lk : List (LK × Int)} {now : Int} {rest : List LK} (h : (lk.map Prod.fst).Nodup) : ((keepK lk now rest).map Prod.fst).Nodup := (List.Sublist.map _ List.filter_sublist).nodup h
theorem keep_0 {lk : List (LK × Int)} {now : Int} : keepK lk now (lk.map Prod.fst) = lk := List.filter_eq_self.2 fun e he => by rw [decide_eq_true (List.mem_map_of_mem he)]; rfl
theorem keep_fin {lk : List (LK × Int)} {now : Int} : keepK lk now [] = lk.filter fun e => decide (now < e.2) := List.filter_congr fun e _ => by simp
theorem del_filterK {k : LK} : ∀ {l : List (LK × Int)}, (l.map Prod.fst).Nodup → del l k = l.filter (fun e => decide (e.1 ≠ k))
  | [], _ => rfl
  | (a, x) :: l, h => by
    simp only [List.map_cons, List.nodup_cons] at h
    simp only [del]
    by_cases e : a = k
    · subst e
      rw [if_pos rfl, List.filter_cons, if_neg (by simp)]
      refine (List.filter_eq_self.2 fun q hq => ?_).symm
      simp only [decide_eq_true_eq]
      intro e2
      exact h.1 (by rw [← e2]; exact List.mem_map_of_mem hq)
    · rw [if_neg e, List.filter_cons, if_pos (by simpa using e), del_filterK h.2]
theorem keep_step {lk : List (LK × Int)} {now v : Int} {rest rs : List LK} {k : LK} (h : (lk.map Prod.fst).Nodup) (hr : rest.Nodup) (hp : rest.Perm (k :: rs)) (hm : (k, v) ∈ keepK lk now rest) :
    rs.Nodup ∧ k ∉ rs ∧ (if v ≤ now then del (keepK lk now rest) k else keepK lk now rest) = keepK lk now rs := by
  have hk := (List.nodup_cons.1 (hp.nodup_iff.1 hr))
  have hml := (List.mem_filter.1 hm).1
  refine ⟨hk.2, hk.1, ?_⟩
  have key : ∀ e ∈ lk, (e.1 = k → e.2 = v) := fun e he e1 => by
    have h1 := look_of_mem h (k := e.1) (v := e.2) he
    have h2 := look_of_mem h hml
    rw [e1, h2] at h1
    exact (Option.some.inj h1).symm
  have hin : ∀ e : LK, e ∈ rest ↔ e = k ∨ e ∈ rs := fun e => by rw [hp.mem_iff, List.mem_cons]
  split
  · rename_i hv
    rw [del_filterK (keep_nd h)]
    unfold keepK
    rw [List.filter_filter]
    refine List.filter_congr fun e he => ?_
    by_cases e1 : e.1 = k
    · have := key e he e1
      have a1 : decide (e.1 ≠ k) = false := decide_eq_false fun q => q e1
      have a2 : decide (e.1 ∈ rs) = false := decide_eq_false (by rw [e1]; exact hk.1)
      have a3 : decide (now < e.2) = false := decide_eq_false (by omega)
      rw [a1, a2, a3]; rfl
    · have a1 : decide (e.1 ≠ k) = true := decide_eq_true e1
      have a2 : decide (e.1 ∈ rest) = decide (e.1 ∈ rs) := decide_eq_decide.2 ⟨fun q => ((hin _).1 q).resolve_left e1, fun q => (hin _).2 (.inr q)⟩
      rw [a1, a2, Bool.true_and]
  · rename_i hv
    unfold keepK
    refine List.filter_congr fun e he => ?_
    by_cases e1 : e.1 = k
    · have := key e he e1
      have a3 : decide (now < e.2) = true := decide_eq_true (by omega)
      rw [a3, Bool.or_true, Bool.or_true]
    · have a2 : decide (e.1 ∈ rest) = decide (e.1 ∈ rs) := decide_eq_decide.2 ⟨fun q => ((hin _).1 q).resolve_left e1, fun q => (hin _).2 (.inr q)⟩
      rw [a2]
theorem fo96_0 : Fo Tryz.prog 96 0 0 := fun a w => by kernel_rfl
theorem fo52_1 : Fo Tryz.prog 52 1 1 := fun a w => by kernel_rfl
theorem fo59_0 : Fo Tryz.prog 59 0 0 := fun a w => by kernel_rfl
theorem fo59_3 : Fo Tryz.prog 59 3 3 := fun a w => by kernel_rfl
theorem sc56 : Sc Tryz.prog 56 := fun w => ⟨by kernel_rfl, by kernel_rfl⟩
theorem fo96_1 : Fo Tryz.prog 96 1 34 := fun a w => by kernel_rfl
theorem fo59_4 : Fo Tryz.prog 59 4 4 := fun a w => by kernel_rfl
theorem sc57 : Sc Tryz.prog 57 := fun w => ⟨by kernel_rfl, by kernel_rfl⟩
theorem zv125 : ∀ w, (zeroValue 125).run Tryz.prog w = .ok (Value.agg #[Value.int .i64 0, Value.int .u8 0, Value.int .u8 0, Value.int .u8 0, Value.int .u8 0, Value.int .u8 0, Value.int .u8 0, Value.int .u8 0, Value.int .u8 0, Value.int .u8 0, Value.int .u8 0, Value.int .u8 0, Value.int .u8 0, Value.int .u8 0, Value.int .u8 0, Value.int .u8 0, Value.int .u8 0, Value.int .u8 0, Value.int .u8 0, Value.int .u8 0, Value.int .u8 0, Value.int .u8 0, Value.int .u8 0, Value.int .u8 0, Value.int .u8 0, Value.int .u8 0, Value.int .u8 0, Value.int .u8 0, Value.int .u8 0, Value.int .u8 0, Value.int .u8 0, Value.int .u8 0, Value.int .u8 0]) w := fun w => by kernel_rfl
theorem bu125 : Bu Tryz.prog 125 (Value.int .i64 0 :: Value.int .u8 0 :: Value.int .u8 0 :: Value.int .u8 0 :: Value.int .u8 0 :: Value.int .u8 0 :: Value.int .u8 0 :: Value.int .u8 0 :: Value.int .u8 0 :: Value.int .u8 0 :: Value.int .u8 0 :: Value.int .u8 0 :: Value.int .u8 0 :: Value.int .u8 0 :: Value.int .u8 0 :: Value.int .u8 0 :: Value.int .u8 0 :: Value.int .u8 0 :: Value.int .u8 0 :: Value.int .u8 0 :: Value.int .u8 0 :: Value.int .u8 0 :: Value.int .u8 0 :: Value.int .u8 0 :: Value.int .u8 0 :: Value.int .u8 0 :: Value.int .u8 0 :: Value.int .u8 0 :: Value.int .u8 0 :: Value.int .u8 0 :: Value.int .u8 0 :: Value.int .u8 0 :: Value.int .u8 0 :: []) (fun (i : Nat) => ([(0, 1), (1, 32)] : List (Nat × Nat))[i]?) := bu_of Tryz.underlying125 zv125 rfl (fun w => by kernel_rfl)
theorem fo59_2 : Fo Tryz.prog 59 2 2 := fun a w => by kernel_rfl
theorem ktL : KeyT Tryz.prog 125 lkK := keyT_lack Tryz.underlying125 rfl rfl rfl rfl rfl rfl Tryz.underlying3 sc3 Tryz.underlying50 ag50 Tryz.underlying5 sc5 (by kernel_rfl)
set_option maxHeartbeats 400000 in
theorem ask1_spec {bw : Nat} {w : Wnt} {x : Ord}  : Spec Tryz.prog 36 [.agg (oC x).toArray, .pointer (some ⟨bw, 0, none⟩)] [] [cl bw 52 (wC w)] (fun v D' M' => v = .bool (decide (x.1.2.1.1 = w.2.1.1)) ∧ D' = [] ∧ M' = [cl bw 52 (wC w)]) := by
  refine Spec.intro (n := 10) Tryz.func36 rfl rfl (by decide) (Nat.le_of_ble_eq_true rfl) rfl (fun _ => qA) (fun _ => qA) ?_
  intro σ D M
  have hx32 := x.1.2.1.2
  have hw32 := w.2.1.2
  have hol := oC_len x
  have hwl := wC_len w
  refine T.seq ?_
  refine T.region ?_
  refine L.box rfl rfl rfl (fun b2 => ?_)
  refine L.assign rfl rfl ?_
  refine L.nil ?_
  refine T.thenN ?_
  refine T.seq ?_
  refine T.region ?_
  first | refine L.field0 rfl fo96_0 rfl ?_ | refine L.field rfl fo96_0 rfl ?_
  first | refine L.field0 rfl fo52_1 rfl ?_ | refine L.field rfl fo52_1 rfl ?_
  refine L.loadA rfl ag50 rfl qN ?_
  first | refine L.field0 rfl fo52_1 rfl ?_ | refine L.field rfl fo52_1 rfl ?_
  refine L.loadA rfl ag50 rfl qN ?_
  refine L.eqlArrI (by kernel_rfl) rfl Tryz.underlying50 Tryz.underlying5 sc5 rfl rfl qL qL ?_
  refine L.assign rfl rfl ?_
  refine L.nil ?_
  refine T.thenN ?_
  refine T.ret ?_
  exact T.ret1 rfl rfl ⟨rfl, rfl, rfl⟩ qD qF
set_option maxHeartbeats 400000 in
theorem whom_spec {b bb q on oc lm : Nat} {o sq : Int} {oa : Option Addr} {ol : List Ord} {F : Int → Mind} {lk : List (LK × Int)} {w : Wnt} {now : Int} {ha : Option Addr} {hn hc : Nat} {hs : List Int} (hhn : hn ≤ 12) (hon : on ≤ 1000000) : Spec Tryz.prog 37 [.pointer (some ⟨b, 0, none⟩), .agg (wC w).toArray, .int .i64 now, .slice ha hn hc] [rsl 1 ha hn hc (hs.map e3)] [cl b 59 (swC bb q o oa on oc lm sq), own 37 96 oa on oc ((ol).map oC), bookA bb F, mp lm lkK iK lk] (fun v D' M' => ∃ (n : Int) (ok : Bool), v = .tuple #[.int .i64 n, .bool ok] ∧ (WhomR F hs now o ol lk w.2.1 n ok) ∧ D' = [] ∧ M' = [cl b 59 (swC bb q o oa on oc lm sq), own 37 96 oa on oc ((ol).map oC), bookA bb F, mp lm lkK iK lk]) := by
  refine Spec.intro (n := 73) Tryz.func37 rfl rfl (by decide) (Nat.le_of_ble_eq_true rfl) rfl (fun _ => qA) (fun _ => qA) ?_
  intro σ D M
  refine T.ownLen (rows := ol.map oC) qM (fun hLl hLc => ?_)
  rw [List.length_map] at hLl
  have hw32 := w.2.1.2
  have hwl := wC_len w
  refine T.seq ?_
  refine T.region ?_
  refine L.box rfl rfl rfl (fun b5 => ?_)
  refine L.assign rfl rfl ?_
  refine L.assign rfl rfl ?_
  refine L.nil ?_
  refine T.freeze (A := cl b5 52 (wC w)) qP ?_
  refine T.thenN ?_
  refine T.seq ?_
  refine T.seq ?_
  refine T.rslLen2 (rows := hs.map e3) qM (fun hsl hsc => ?_)
  rw [List.length_map] at hsl
  refine T.region ?_
  refine L.move rfl rfl ?_
  refine L.nilCheck rfl rfl ?_
  first | refine L.field0 rfl fo59_0 rfl ?_ | refine L.field rfl fo59_0 rfl ?_
  refine L.load rfl sc54 rfl qC ?_
  refine L.move rfl rfl ?_
  refine L.move rfl rfl ?_
  refine L.call rfl (evs.cons rfl <| evs.cons rfl <| evs.cons rfl <| evs.nil) qD qS (bsort_spec (b := bb) (xs := hs) (now := now) (F := F) hhn) ?_
  rintro _ _ _ ⟨sa, sc, ys, rfl, hp, hs_, rfl, rfl⟩
  refine L.norm qA qA ?_
  refine L.lenSl rfl Tryz.underlying39 rfl ?_
  refine L.move rfl rfl ?_
  refine L.nil ?_
  refine T.ownRsl (rows := ys.map e3) qP ?_
  have hyl : ys.length ≤ 12 := by have h1 := hp.length_eq; have h2 := List.length_filter_le (fun x => mayB F x now) hs; rw [hsl] at h2; omega
  refine T.thenN ?_
  refine T.block ?_
  refine T.loop (fun K' D' M' μ => ∃ (i : Nat), (i ≤ ys.length ∧ ∀ z ∈ ys.take i, okW o ol lk w.2.1 z = false) ∧ K' = [(25, .int .i64 i)] ∧ D' = [] ∧ M' = [] ∧ μ = ys.length - i) (.cons (t := 0) rfl <| .cons (t := 5) rfl <| .cons (t := 23) rfl <| .cons (t := 24) rfl <| SubK.nil _) (⟨0, ⟨by omega, by simp⟩, rfl, rfl, rfl, rfl⟩) (.cons (t := 25) rfl <| SubK.nil _) qD qS ?_
  rintro K1 D1 M1 m1 ⟨i, ⟨hi, hall⟩, rfl, rfl, rfl, rfl⟩
  refine T.norm3 qA qA qA ?_
  refine T.seq ?_
  refine T.region ?_
  refine L.ltI rfl rfl rfl ?_
  refine L.nil ?_
  refine T.thenN ?_
  refine T.seq ?_
  refine T.cond rfl (fun h26 => ?_) (fun h26 => ?_)
  · try simp only [decide_eq_true_eq, decide_eq_false_iff_not, Bool.not_eq_true', Bool.not_eq_false', Bool.and_eq_true, Bool.or_eq_true] at h26
    refine T.skip ?_
    refine T.thenN ?_
    refine T.seq ?_
    refine T.block ?_
    refine T.seq ?_
    have hgi : ys[i]? = some (gd ys i) := gd_get (by omega)
    obtain ⟨y, hy_⟩ : ∃ y, y = gd ys i := ⟨_, rfl⟩
    rw [← hy_] at hgi
    refine T.region ?_
    refine L.idx (i := i) rfl Tryz.underlying39 sz3 rfl rfl qM (by first | rfl | omega | (simp; done)) qG (fun b27 o27 => ?_)
    refine L.load rfl sc3 rfl qC ?_
    refine L.assign rfl rfl ?_
    refine L.nil ?_
    refine T.thenN ?_
    refine T.seq ?_
    refine T.region ?_
    refine L.assign rfl rfl ?_
    refine L.nil ?_
    refine T.thenN ?_
    refine T.seq ?_
    refine T.seq ?_
    refine T.region ?_
    refine L.move rfl rfl ?_
    refine L.nilCheck rfl rfl ?_
    first | refine L.field0 rfl fo59_3 rfl ?_ | refine L.field rfl fo59_3 rfl ?_
    refine L.load rfl sc56 rfl qC ?_
    refine L.lenSl rfl Tryz.underlying56 rfl ?_
    refine L.move rfl rfl ?_
    refine L.nil ?_
    refine T.thenN ?_
    refine T.block ?_
    refine T.loop (fun K' D' M' μ => ∃ (j c : Nat), (j ≤ on ∧ c = cntO (ol.take j) y) ∧ K' = [(34, .int .i64 j), (12, .int .i64 (c : Int))] ∧ D' = [] ∧ M' = [] ∧ μ = on - j) (.cons (t := 0) rfl <| .cons (t := 5) rfl <| .cons (t := 11) rfl <| .cons (t := 23) rfl <| .cons (t := 24) rfl <| .cons (t := 25) rfl <| .cons (t := 32) rfl <| .cons (t := 33) rfl <| SubK.nil _) (⟨0, 0, ⟨by omega, rfl⟩, rfl, rfl, rfl, rfl⟩) (.cons (t := 34) rfl <| .cons (t := 12) rfl <| SubK.nil _) qD qS ?_
    rintro K1 D1 M1 m1 ⟨j, c, ⟨hj, hcc⟩, rfl, rfl, rfl, rfl⟩
    refine T.norm3 qA qA qA ?_
    have hct := @cntO_le (ol.take j) y
    have hctl : (ol.take j).length ≤ j := by rw [List.length_take]; omega
    refine T.seq ?_
    refine T.region ?_
    refine L.ltI rfl rfl rfl ?_
    refine L.nil ?_
    refine T.thenN ?_
    refine T.seq ?_
    refine T.cond rfl (fun h35 => ?_) (fun h35 => ?_)
    · try simp only [decide_eq_true_eq, decide_eq_false_iff_not, Bool.not_eq_true', Bool.not_eq_false', Bool.and_eq_true, Bool.or_eq_true] at h35
      refine T.ownNe (a := oa) qM (by omega) (fun pb po ha_ => ?_)
      subst ha_
      refine T.skip ?_
      refine T.thenN ?_
      refine T.seq ?_
      refine T.block ?_
      refine T.seq ?_
      have hgj : ol[j]? = some (gd ol j) := gd_get (by omega)
      obtain ⟨x, hx_⟩ : ∃ x, x = gd ol j := ⟨_, rfl⟩
      rw [← hx_] at hgj
      have hxl := oC_len x
      have hx32 := x.1.2.1.2
      refine T.region ?_
      refine L.idxG (i := j) rfl Tryz.underlying56 sz96 rfl rfl (by first | rfl | omega | (simp; done)) qI ?_
      refine L.loadA rfl ag96 rfl (CellsN.ofOwn qM (map_get hgj) (oC_len _)) ?_
      refine L.alloc rfl ze96 (fun b14 => ?_)
      refine L.storeA ag96 rfl rfl qL qO qU qW ?_
      refine L.nil ?_
      refine T.thenN ?_
      refine T.seq ?_
      refine T.region ?_
      first | refine L.field0 rfl fo96_1 rfl ?_ | refine L.field rfl fo96_1 rfl ?_
      refine L.load rfl sc3 rfl qC ?_
      refine L.move rfl rfl ?_
      refine L.eqI rfl rfl rfl ?_
      refine L.nil ?_
      refine T.thenN ?_
      refine T.cond rfl (fun h41 => ?_) (fun h41 => ?_)
      · try simp only [decide_eq_true_eq, decide_eq_false_iff_not, Bool.not_eq_true', Bool.not_eq_false', Bool.and_eq_true, Bool.or_eq_true] at h41
        have hcs := @cntO_s ol j x y hgj
        rw [if_pos h41] at hcs
        refine T.region ?_
        refine L.move rfl rfl ?_
        refine L.addN rfl rfl rfl (by omega) ?_
        refine L.assign rfl rfl ?_
        refine L.nil ?_
        refine T.blkN ?_
        refine T.thenN ?_
        refine T.region ?_
        refine L.addN rfl rfl rfl (by omega) ?_
        refine L.move rfl rfl ?_
        refine L.nil ?_
        refine T.thenN ?_
        exact T.back ⟨j + 1, c + 1, ⟨by omega, by omega⟩, rfl, rfl, rfl, rfl⟩ qI (.cons (t := 34) rfl <| .cons (t := 12) rfl <| SubK.nil _) (.cons (t := 0) rfl <| .cons (t := 5) rfl <| .cons (t := 11) rfl <| .cons (t := 23) rfl <| .cons (t := 24) rfl <| .cons (t := 25) rfl <| .cons (t := 32) rfl <| .cons (t := 33) rfl <| SubK.nil _) qD qD qF
      · try simp only [decide_eq_true_eq, decide_eq_false_iff_not, Bool.not_eq_true', Bool.not_eq_false', Bool.and_eq_true, Bool.or_eq_true] at h41
        have hcs := @cntO_s ol j x y hgj
        rw [if_neg h41] at hcs
        refine T.skip ?_
        refine T.blkN ?_
        refine T.thenN ?_
        refine T.region ?_
        refine L.addN rfl rfl rfl (by omega) ?_
        refine L.move rfl rfl ?_
        refine L.nil ?_
        refine T.thenN ?_
        exact T.back ⟨j + 1, c, ⟨by omega, by omega⟩, rfl, rfl, rfl, rfl⟩ qI (.cons (t := 34) rfl <| .cons (t := 12) rfl <| SubK.nil _) (.cons (t := 0) rfl <| .cons (t := 5) rfl <| .cons (t := 11) rfl <| .cons (t := 23) rfl <| .cons (t := 24) rfl <| .cons (t := 25) rfl <| .cons (t := 32) rfl <| .cons (t := 33) rfl <| SubK.nil _) qD qD qF
    · try simp only [decide_eq_true_eq, decide_eq_false_iff_not, Bool.not_eq_true', Bool.not_eq_false', Bool.and_eq_true, Bool.or_eq_true] at h35
      obtain rfl : on = j := by omega
      rw [List.take_of_length_le (by omega)] at hcc
      have hcl := @cntO_le ol y
      refine T.exit ?_
      refine T.thenX ?_
      refine T.thenX ?_
      refine T.blkX ?_
      refine T.thenN ?_
      refine T.seq ?_
      refine T.regionQ (by kernel_rfl) (by kernel_rfl) ?_
      refine L.move rfl rfl ?_
      refine L.nilCheck rfl rfl ?_
      first | refine L.field0 rfl fo59_4 rfl ?_ | refine L.field rfl fo59_4 rfl ?_
      refine L.load rfl sc57 rfl qC ?_
      refine L.move rfl rfl ?_
      first | refine L.field0 rfl fo52_1 rfl ?_ | refine L.field rfl fo52_1 rfl ?_
      refine L.loadA rfl ag50 rfl qN ?_
      refine L.build rfl bu125 (BP.one rfl rfl rfl <| BP.agg rfl rfl (by first | with_reducible assumption | (simp; done) | (simp only [List.length_map]; with_reducible assumption) | (simp [*]; done) | rfl) (Nat.le_of_ble_eq_true rfl) qR <| BP.doneE (out := []) rfl) ?_
      refine L.known (t := 53) (u := lkK (y, w.2.1)) rfl (by first | rfl | simp [lkK]) ?_
      refine L.lookup2 (kenc := lkK) (venc := iK) (l := lk) (k := (y, w.2.1)) rfl Tryz.underlying57 ktL zv3 rfl rfl qM ?_
      refine L.known (t := 54) (u := .tuple #[.int .i64 ((look lk (y, w.2.1)).getD 0), .bool (look lk (y, w.2.1)).isSome]) rfl (by cases look lk (y, w.2.1) <;> rfl) ?_
      refine L.move rfl rfl ?_
      refine L.extract rfl rfl rfl ?_
      refine L.extract rfl rfl rfl ?_
      refine L.assign rfl rfl ?_
      refine L.assign rfl rfl ?_
      refine L.nilQ ?_
      refine T.thenN ?_
      refine T.seq ?_
      refine T.cutC (fun K' D' M' => ∃ (wb : Bool), (wb = okW o ol lk w.2.1 y) ∧ K' = [(70, .bool wb)] ∧ D' = [] ∧ M' = [cl b 59 (swC bb q o oa on oc lm sq)]) (M0 := [cl b 59 (swC bb q o oa on oc lm sq)]) (.cons (t := 0) rfl <| .cons (t := 5) rfl <| .cons (t := 11) rfl <| .cons (t := 23) rfl <| .cons (t := 24) rfl <| .cons (t := 25) rfl <| SubK.nil _) qS ?_ ?_
      · skip
        rcases okw_cases o ol lk w.2.1 y with hk1 | ⟨hk1, hk2⟩ | ⟨hk1, hk2⟩
        · skip
          refine T.region ?_
          refine L.move rfl rfl ?_
          refine L.notB rfl rfl ?_
          refine L.move rfl rfl ?_
          refine L.known (t := 59) rfl (show _ = Value.bool false from congrArg Value.bool (by cases e : look lk (y, w.2.1) with | none => exact absurd e hk1 | some v => rfl)) ?_
          refine L.guardF (dj := 59) (c := false) rfl rfl rfl rfl rfl (by decide) ?_
          refine L.guardF (dj := 59) (c := false) rfl rfl rfl rfl rfl (by decide) ?_
          refine L.pickF rfl rfl rfl ?_
          refine L.move rfl rfl ?_
          refine L.guardF (dj := 63) (c := false) rfl rfl rfl rfl rfl (by decide) ?_
          refine L.guardF (dj := 63) (c := false) rfl rfl rfl rfl rfl (by decide) ?_
          refine L.guardF (dj := 63) (c := false) rfl rfl rfl rfl rfl (by decide) ?_
          refine L.guardF (dj := 63) (c := false) rfl rfl rfl rfl rfl (by decide) ?_
          refine L.guardF (dj := 63) (c := false) rfl rfl rfl rfl rfl (by decide) ?_
          refine L.guardF (dj := 63) (c := false) rfl rfl rfl rfl rfl (by decide) ?_
          refine L.pickF rfl rfl rfl ?_
          refine L.nil ?_
          refine T.thenN ?_
          exact T.toJoin ⟨_, (decide_eq_false (fun e => hk1 e.1)).symm, rfl, rfl, rfl⟩ (.cons (t := 70) rfl <| SubK.nil _) (.cons (t := 0) rfl <| .cons (t := 5) rfl <| .cons (t := 11) rfl <| .cons (t := 23) rfl <| .cons (t := 24) rfl <| .cons (t := 25) rfl <| SubK.nil _) qD qD qF
        · skip
          refine T.region ?_
          refine L.move rfl rfl ?_
          refine L.notB rfl rfl ?_
          refine L.move rfl rfl ?_
          refine L.known (t := 59) rfl (show _ = Value.bool true from congrArg Value.bool (by rw [hk1]; rfl)) ?_
          refine L.guardT (dj := 59) rfl rfl rfl ?_
          refine L.move rfl rfl ?_
          refine L.guardT (dj := 59) rfl rfl rfl ?_
          refine L.ltI rfl rfl rfl ?_
          refine L.pickT rfl rfl rfl ?_
          refine L.move rfl rfl ?_
          refine L.known (t := 63) rfl (show _ = Value.bool false from congrArg Value.bool (decide_eq_false (by omega))) ?_
          refine L.guardF (dj := 63) (c := false) rfl rfl rfl rfl rfl (by decide) ?_
          refine L.guardF (dj := 63) (c := false) rfl rfl rfl rfl rfl (by decide) ?_
          refine L.guardF (dj := 63) (c := false) rfl rfl rfl rfl rfl (by decide) ?_
          refine L.guardF (dj := 63) (c := false) rfl rfl rfl rfl rfl (by decide) ?_
          refine L.guardF (dj := 63) (c := false) rfl rfl rfl rfl rfl (by decide) ?_
          refine L.guardF (dj := 63) (c := false) rfl rfl rfl rfl rfl (by decide) ?_
          refine L.pickF rfl rfl rfl ?_
          refine L.nil ?_
          refine T.thenN ?_
          exact T.toJoin ⟨_, (decide_eq_false (fun e => hk2 e.2.1)).symm, rfl, rfl, rfl⟩ (.cons (t := 70) rfl <| SubK.nil _) (.cons (t := 0) rfl <| .cons (t := 5) rfl <| .cons (t := 11) rfl <| .cons (t := 23) rfl <| .cons (t := 24) rfl <| .cons (t := 25) rfl <| SubK.nil _) qD qD qF
        · skip
          refine T.region ?_
          refine L.move rfl rfl ?_
          refine L.notB rfl rfl ?_
          refine L.move rfl rfl ?_
          refine L.known (t := 59) rfl (show _ = Value.bool true from congrArg Value.bool (by rw [hk1]; rfl)) ?_
          refine L.guardT (dj := 59) rfl rfl rfl ?_
          refine L.move rfl rfl ?_
          refine L.guardT (dj := 59) rfl rfl rfl ?_
          refine L.ltI rfl rfl rfl ?_
          refine L.pickT rfl rfl rfl ?_
          refine L.move rfl rfl ?_
          refine L.known (t := 63) rfl (show _ = Value.bool true from congrArg Value.bool (decide_eq_true (by omega))) ?_
          refine L.guardT (dj := 63) rfl rfl rfl ?_
          refine L.move rfl rfl ?_
          refine L.guardT (dj := 63) rfl rfl rfl ?_
          refine L.move rfl rfl ?_
          refine L.guardT (dj := 63) rfl rfl rfl ?_
          refine L.nilCheck rfl rfl ?_
          refine L.guardT (dj := 63) rfl rfl rfl ?_
          first | refine L.field0 rfl fo59_2 rfl ?_ | refine L.field rfl fo59_2 rfl ?_
          refine L.guardT (dj := 63) rfl rfl rfl ?_
          refine L.load rfl sc3 rfl qC ?_
          refine L.guardT (dj := 63) rfl rfl rfl ?_
          refine L.neI rfl rfl rfl ?_
          refine L.pickT rfl rfl rfl ?_
          refine L.nil ?_
          refine T.thenN ?_
          exact T.toJoin ⟨_, (by unfold okW; exact decide_eq_decide.2 ⟨fun e => ⟨hk1, hk2, e⟩, fun e => e.2.2⟩), rfl, rfl, rfl⟩ (.cons (t := 70) rfl <| SubK.nil _) (.cons (t := 0) rfl <| .cons (t := 5) rfl <| .cons (t := 11) rfl <| .cons (t := 23) rfl <| .cons (t := 24) rfl <| .cons (t := 25) rfl <| SubK.nil _) qD qD qF
      rintro _ _ _ ⟨wb, hwb, rfl, rfl, rfl⟩
      refine T.norm3 qA qA qA ?_
      refine T.thenN ?_
      refine T.cond rfl (fun h70 => ?_) (fun h70 => ?_)
      · try simp only [decide_eq_true_eq, decide_eq_false_iff_not, Bool.not_eq_true', Bool.not_eq_false', Bool.and_eq_true, Bool.or_eq_true] at h70
        refine T.seq ?_
        refine T.region ?_
        refine L.move rfl rfl ?_
        refine L.assign rfl rfl ?_
        refine L.assign rfl rfl ?_
        refine L.nil ?_
        refine T.thenN ?_
        refine T.ret ?_
        refine T.blkR ?_
        refine T.thenR ?_
        refine T.thenR ?_
        refine T.blkR ?_
        refine T.thenR ?_
        exact T.ret2 rfl rfl rfl ⟨y, true, rfl, ⟨ys, hp, hs_, .inl ⟨rfl, find_atQ hall hgi (by rw [← hwb]; exact h70)⟩⟩, rfl, rfl⟩ qD qF
      · try simp only [decide_eq_true_eq, decide_eq_false_iff_not, Bool.not_eq_true', Bool.not_eq_false', Bool.and_eq_true, Bool.or_eq_true] at h70
        refine T.skip ?_
        refine T.blkN ?_
        refine T.thenN ?_
        refine T.region ?_
        refine L.addN rfl rfl rfl (by omega) ?_
        refine L.move rfl rfl ?_
        refine L.nil ?_
        refine T.thenN ?_
        exact T.back ⟨i + 1, ⟨by omega, find_s hall hgi (by rw [← hwb]; exact h70)⟩, rfl, rfl, rfl, rfl⟩ qI (.cons (t := 25) rfl <| SubK.nil _) (.cons (t := 0) rfl <| .cons (t := 5) rfl <| .cons (t := 23) rfl <| .cons (t := 24) rfl <| SubK.nil _) qD qD qF
  · try simp only [decide_eq_true_eq, decide_eq_false_iff_not, Bool.not_eq_true', Bool.not_eq_false', Bool.and_eq_true, Bool.or_eq_true] at h26
    obtain hie : i = ys.length := by omega
    rw [List.take_of_length_le (by omega)] at hall
    refine T.exit ?_
    refine T.thenX ?_
    refine T.thenX ?_
    refine T.blkX ?_
    refine T.thenN ?_
    refine T.seq ?_
    refine T.region ?_
    refine L.assign rfl rfl ?_
    refine L.assign rfl rfl ?_
    refine L.nil ?_
    refine T.thenN ?_
    refine T.ret ?_
    exact T.ret2 rfl rfl rfl ⟨0, false, rfl, ⟨ys, hp, hs_, .inr ⟨rfl, find_none hall⟩⟩, rfl, rfl⟩ qD qF
end Cv
