/-
  My own library for walks (CvRange CvDel CvNext CvKey CvNil CvLack CvExt CvUpd CvEntry): separation logic over the calls of the kit; no statement of this seat stands here.
-/
import Derived.Test.YtcfhpmijippbmaaGreatCvLc
import Derived.Laws.IdiomRangeMap
import Derived.WideKeyRuns
import Derived.Lib.Bytealg
import Derived.Laws.Externs
set_option linter.unusedVariables false
set_option linter.unusedSimpArgs false
set_option linter.unusedSectionVars false
namespace Cv
open Go
/-! ## ranging over a map: in whatever order -/
theorem run_nextG {P : Program} {w : World} {ty : TypeId} {it bm since c0 : Nat} {seen : Array Nat} {es : Array MapEntry} {clock : Nat} (hb : w.heap[bm]? = some (.map es clock)) (hi : w.heap[it]? = some (.mapIter (some bm) since seen c0)) (hold : ∀ x ∈ es.toList, x.born < since) (hsc : since ≤ c0) :
    ((leftOf es seen).toList = [] ∧ (Instr.next (.pointer (some ⟨it, 0, none⟩)) false ty).run P w = .ok (.tuple #[.bool false]) w) ∨
    ∃ e ∈ (leftOf es seen).toList, ∃ k, w.drawn ≤ k ∧ (Instr.next (.pointer (some ⟨it, 0, none⟩)) false ty).run P w = .ok (.tuple #[.bool true, e.key, e.val]) (setB { w with drawn := k } it (.mapIter (some bm) since (seen.push e.born) clock)) := by
  simp only [Instr.next, getObj, Sem.run_bind, Sem.run, hi, hb, Result.andThen, next_test_false seen es since c0 hold hsc, Bool.false_eq_true, if_false]
  unfold leftOf
  have hmem : ∀ x ∈ (Array.filter (fun e => !seen.contains e.born) es).toList, x.born < since := fun x hx => hold x (by simp at hx ⊢; exact hx.1)
  generalize Array.filter (fun e => !seen.contains e.born) es = L at hmem ⊢
  have e1 : L.filter (fun x => decide (x.born < since)) = L := Array.filter_eq_self.2 (fun x hx => by simpa using hmem x (by simpa using hx))
  have e2 : L.filter (fun x => decide (x.born ≥ since)) = #[] := by
    rw [Array.filter_eq_empty_iff]
    intro x hx
    have := hmem x (by simpa using hx)
    simp
    omega
  simp only [e1, e2, Array.append_empty]
  by_cases h0 : L.size = 0
  · left
    have : L = #[] := Array.eq_empty_of_size_eq_zero h0
    subst this
    refine ⟨rfl, ?_⟩
    simp [choose, Sem.run, Question.forced]
  · right
    have hne : L.isEmpty = false := by simp [Array.isEmpty, h0]
    simp only [hne, Bool.false_eq_true, if_false, Array.empty_append, Array.size_map]
    have hch : ∃ (j k : Nat), j < L.size ∧ w.drawn ≤ k ∧ (choose (Question.mapNext L.size)).run P w = .ok j { w with drawn := k } := by
      by_cases hf : L.size ≤ 1
      · exact ⟨0, w.drawn, by omega, Nat.le_refl _, by simp [choose, Sem.run, Question.forced, hf]⟩
      · refine ⟨_, w.drawn + 1, Nat.mod_lt (w.tape w.drawn (Question.mapNext L.size)) (by omega), Nat.le_succ _, ?_⟩
        rw [run_choose_drew]
        simp only [Question.forced, decide_eq_true_eq, hf, if_false, Question.cut]
        rfl
    obtain ⟨j, k, hj, hk, hc⟩ := hch
    refine ⟨L[j], by simp, k, hk, ?_⟩
    have hcand : (L.map some)[j]? = some (some L[j]) := by simp [hj]
    rw [hc]
    simp only [hcand]
    have hs := setB_setObj (P := P) (w := { w with drawn := k }) (b := it) (o := .mapIter (some bm) since seen c0) (o' := .mapIter (some bm) since (seen.push L[j].born) clock) hi (fun _ _ _ => by simp)
    simp only [Sem.run_bind, hs, Result.andThen]
    rfl
section
variable {κ ν : Type} {kenc : κ → Value} {venc : ν → Value}
/-- the keys that have not been handed out -/
def restK (l : List (κ × ν)) (bs : List Nat) (seen : Array Nat) : List κ := ((l.zip bs).filter (fun p => !seen.contains p.2)).map (·.1.1)
structure MI (l : List (κ × ν)) (kenc : κ → Value) (venc : ν → Value) (rest : List κ) (cur : Option κ) where
  es : Array MapEntry
  clock : Nat
  since : Nat
  seen : Array Nat
  last : Nat
  val : es.toList.map (fun e => (e.key, e.val)) = l.map (fun p => (kenc p.1, venc p.2))
  keys : (l.map Prod.fst).Nodup
  borns : (es.toList.map (·.born)).Nodup
  old : ∀ e ∈ es.toList, e.born < since
  sc : since ≤ clock
  sl : since ≤ last
  rest : rest.Perm (restK l (es.toList.map (·.born)) seen)
  now : cur.isSome = true → clock = last
  cur : ∀ k, cur = some k → ∃ e ∈ es.toList, seen.back? = some e.born ∧ ∃ v, (k, v) ∈ l ∧ e.key = kenc k ∧ e.val = venc v
/-- block b is a map with the entries l, block `it` one's place in it: the keys `rest` are still to come, in whatever order; `cur` was the last one -/
def mpi (b it : Nat) (kenc : κ → Value) (venc : ν → Value) (l : List (κ × ν)) (rest : List κ) (cur : Option κ) : Asn := fun z => ∃ x : MI l kenc venc rest cur, Holds [pt it (.mapIter (some b) x.since x.seen x.last), pt b (.map x.es x.clock)] z
theorem restK_nil {l : List (κ × ν)} {bs : List Nat} (h : bs.length = l.length) : restK l bs #[] = l.map Prod.fst := by
  unfold restK
  rw [List.filter_eq_self.2 (fun a _ => by simp)]
  induction l generalizing bs with
  | nil => simp
  | cons p l ih =>
    cases bs with
    | nil => simp at h
    | cons b bs => simp only [List.zip_cons_cons, List.map_cons]; rw [ih (by simpa using h)]
theorem perm_take {α : Type} {g : α → Nat} : ∀ {zs : List α}, (zs.map g).Nodup → ∀ {p : α}, p ∈ zs → zs.Perm (p :: zs.filter (fun q => decide (g q ≠ g p)))
  | [], _, _, h => by cases h
  | z :: zs, hn, p, h => by
    simp only [List.map_cons, List.nodup_cons] at hn
    rcases List.mem_cons.1 h with rfl | h
    · have e : zs.filter (fun q => decide (g q ≠ g p)) = zs := List.filter_eq_self.2 (fun q hq => by
        simp only [ne_eq, decide_not, Bool.not_eq_true', decide_eq_false_iff_not]
        exact fun e => hn.1 (List.mem_map.2 ⟨q, hq, e⟩))
      rw [List.filter_cons_of_neg (by simp), e]
    · have hne : g z ≠ g p := fun e => hn.1 (List.mem_map.2 ⟨p, h, e.symm⟩)
      rw [List.filter_cons_of_pos (by simpa using hne)]
      exact ((perm_take hn.2 h).cons z).trans (List.Perm.swap _ _ _)
theorem zip_mem {l : List (κ × ν)} {es : List MapEntry} (h : es.map (fun e => (e.key, e.val)) = l.map (fun p => (kenc p.1, venc p.2))) {e : MapEntry} (he : e ∈ es) : ∃ p ∈ l, e.key = kenc p.1 ∧ e.val = venc p.2 ∧ (p, e.born) ∈ l.zip (es.map (·.born)) := by
  induction es generalizing l with
  | nil => cases he
  | cons x es ih =>
    cases l with
    | nil => simp at h
    | cons p l =>
      simp only [List.map_cons, List.cons.injEq, Prod.mk.injEq] at h
      rcases List.mem_cons.1 he with rfl | he
      · exact ⟨p, by simp, h.1.1, h.1.2, by simp⟩
      · obtain ⟨q, hq, h1, h2, h3⟩ := ih h.2 he
        exact ⟨q, by simp [hq], h1, h2, by simp [h3]⟩
theorem zip_snd {l : List (κ × ν)} {bs : List Nat} (h : bs.length = l.length) : (l.zip bs).map (·.2) = bs := by
  induction l generalizing bs with
  | nil => cases bs with
    | nil => rfl
    | cons _ _ => simp at h
  | cons p l ih =>
    cases bs with
    | nil => simp at h
    | cons b bs => simp only [List.zip_cons_cons, List.map_cons]; rw [ih (by simpa using h)]
theorem restK_push {l : List (κ × ν)} {bs : List Nat} {seen : Array Nat} {p : κ × ν} {b : Nat} (hlen : bs.length = l.length) (hn : bs.Nodup) (hm : (p, b) ∈ l.zip bs) (hs : seen.contains b = false) : (restK l bs seen).Perm (p.1 :: restK l bs (seen.push b)) := by
  unfold restK
  have hn2 : (((l.zip bs).filter (fun p => !seen.contains p.2)).map (·.2)).Nodup := by
    refine List.Nodup.sublist ((List.filter_sublist).map _) ?_
    rw [zip_snd hlen]; exact hn
  have hp := perm_take (g := (·.2)) hn2 (p := (p, b)) (List.mem_filter.2 ⟨hm, by simpa using hs⟩)
  have := hp.map (·.1.1)
  refine this.trans ?_
  rw [List.map_cons, List.filter_filter]
  refine List.Perm.of_eq ?_
  congr 2
  apply List.filter_congr
  intro q _
  simp only [Array.contains_push, ne_eq, decide_not]
  by_cases e : q.2 = b
  · simp [e]
  · simp [e]
variable {P : Program} {σ : World} {n : Nat} {Q : Post} {K : Env} {D M N : List Asn} {ops : Array Oper} {rest' : List Oper} {d : Nat} {ty : TypeId} {pos : String} {aft : Array Edge} {G : Act → World → Prop}
theorem mp_open {b : Nat} {l : List (κ × ν)} {w : World} (ss : Sat σ D (mp b kenc venc l :: N) w) : ∃ es clock, es.toList.map (fun e => (e.key, e.val)) = l.map (fun p => (kenc p.1, venc p.2)) ∧ (l.map Prod.fst).Nodup ∧ (es.toList.map (·.born)).Nodup ∧ (∀ e ∈ es.toList, e.born < clock) ∧ Sat σ D (pt b (.map es clock) :: N) w := by
  obtain ⟨z, k, h1, h2, h3, h4, ⟨g1, g2, l1, l2, dj, H, hN⟩⟩ := ss.heap
  obtain ⟨es, clock, e1, e2, e3, e4, e5⟩ := H
  exact ⟨es, clock, e2, e3, e4, e5, ss.os, ss.tape, ss.output, z, k, h1, h2, h3, h4, g1, g2, l1, l2, dj, e1, hN⟩
theorem mpi_open {b it : Nat} {l : List (κ × ν)} {rest : List κ} {cur : Option κ} {w : World} (ss : Sat σ D (mpi b it kenc venc l rest cur :: N) w) : ∃ x : MI l kenc venc rest cur, Sat σ D (pt it (.mapIter (some b) x.since x.seen x.last) :: pt b (.map x.es x.clock) :: N) w := by
  obtain ⟨x, hs⟩ := ss.ex (A := fun (x : MI l kenc venc rest cur) z => Holds [pt it (.mapIter (some b) x.since x.seen x.last), pt b (.map x.es x.clock)] z)
  exact ⟨x, hs.ent Ent.unfold⟩
theorem mpi_shut {b it : Nat} {l : List (κ × ν)} {rest : List κ} {cur : Option κ} {w : World} (x : MI l kenc venc rest cur) (ss : Sat σ D (pt it (.mapIter (some b) x.since x.seen x.last) :: pt b (.map x.es x.clock) :: N) w) : Sat σ D (mpi b it kenc venc l rest cur :: N) w :=
  (ss.ent (Ent.fold (L := [pt it (.mapIter (some b) x.since x.seen x.last), pt b (.map x.es x.clock)]))).ent (Ent.imp fun z H => ⟨x, H⟩)
theorem L.range {t kt et : TypeId} {x : Operand} {b : Nat} {l : List (κ × ν)} (hd : Nat.blt d n = true) (hU : P.underlying t = some (.map kt et)) (hx : ev K x = some (.map (some b))) (hM : Pull (mp b kenc venc l) M N)
    (next : ∀ it, TL none P σ n ops Q rest' ((d, .pointer (some ⟨it, 0, none⟩)) :: K) D (mpi b it kenc venc l (l.map Prod.fst) none :: N)) : TL none P σ n ops Q (⟨some d, .range t x, ty, pos, aft, none⟩ :: rest') K D M :=
  L.valEx hd (fun v D' M' => ∃ it, v = .pointer (some ⟨it, 0, none⟩) ∧ D' = D ∧ M' = mpi b it kenc venc l (l.map Prod.fst) none :: N) (fun a w s ss => by
    obtain ⟨es, clock, e1, e2, e3, e4, hs⟩ := mp_open (ss.ent hM)
    have hb := hs.block (.head _)
    have ex : a.eval x = _ := s.eval hx
    have hr := run_range_map (P := P) w t kt et b es clock hU hb
    refine ⟨_, _, _, w.alloc (.mapIter (some b) clock #[] clock), ?_, ⟨w.heap.size, rfl, rfl, rfl⟩, ?_⟩
    · simp only [execOp, ex]; simp [hr]
    · exact mpi_shut ⟨es, clock, clock, #[], clock, e1, e2, e3, e4, Nat.le_refl _, Nat.le_refl _, by rw [restK_nil (by have := congrArg List.length e1; simpa using this)], (fun h => by cases h), (fun k h => by cases h)⟩ (hs.alloc _))
    (fun v D' M' ⟨it, e1, e2, e3⟩ => by subst e1; subst e2; subst e3; exact next it)
theorem L.next {x : Operand} {b it : Nat} {l : List (κ × ν)} {rest : List κ} {cur : Option κ} (hd : Nat.blt d n = true) (hx : ev K x = some (.pointer (some ⟨it, 0, none⟩))) (hM : Pull (mpi b it kenc venc l rest cur) M N)
    (h1 : rest = [] → TL none P σ n ops Q rest' ((d, .tuple #[.bool false]) :: K) D (mpi b it kenc venc l [] cur :: N))
    (h2 : ∀ k v rs, rest.Perm (k :: rs) → (k, v) ∈ l → TL none P σ n ops Q rest' ((d, .tuple #[.bool true, kenc k, venc v]) :: K) D (mpi b it kenc venc l rs (some k) :: N)) :
    TL none P σ n ops Q (⟨some d, .next x false, ty, pos, aft, none⟩ :: rest') K D M :=
  L.valEx hd (fun u D' M' => (rest = [] ∧ u = .tuple #[.bool false] ∧ D' = D ∧ M' = mpi b it kenc venc l [] cur :: N) ∨ ∃ k v rs, rest.Perm (k :: rs) ∧ (k, v) ∈ l ∧ u = .tuple #[.bool true, kenc k, venc v] ∧ D' = D ∧ M' = mpi b it kenc venc l rs (some k) :: N) (fun a w s ss => by
    obtain ⟨y, hs⟩ := mpi_open (ss.ent hM)
    have hi := hs.block (.head _)
    have hb := hs.block (.tail _ (.head _))
    have ex : a.eval x = _ := s.eval hx
    have hlen : (y.es.toList.map (·.born)).length = l.length := by have := congrArg List.length y.val; simpa using this
    rcases run_nextG (P := P) (ty := ty) hb hi y.old y.sl with ⟨h0, hr⟩ | ⟨e, he, k, hkd, hr⟩
    · have hrest : rest = [] := by
        have hp := y.rest
        have : restK l (y.es.toList.map (·.born)) y.seen = [] := by
          unfold restK
          rw [List.map_eq_nil_iff, List.filter_eq_nil_iff]
          intro q hq
          obtain ⟨p, bq⟩ := q
          have hbq : bq ∈ y.es.toList.map (·.born) := by
            have := List.mem_map_of_mem (f := (·.2)) hq
            rwa [zip_snd hlen] at this
          obtain ⟨e, he, rfl⟩ := List.mem_map.1 hbq
          have hne : e ∉ (leftOf y.es y.seen).toList := by rw [h0]; simp
          simp only [leftOf, Array.toList_filter, List.mem_filter, not_and] at hne
          simpa using hne he
        rw [this] at hp
        exact List.perm_nil.1 hp
      refine ⟨_, _, _, w, ?_, .inl ⟨hrest, rfl, rfl, rfl⟩, ?_⟩
      · simp only [execOp, ex]; simp [hr]
      · subst hrest; exact mpi_shut y hs
    · have he' : e ∈ y.es.toList ∧ y.seen.contains e.born = false := by
        simp only [leftOf, Array.toList_filter, List.mem_filter] at he
        exact ⟨he.1, by simpa using he.2⟩
      obtain ⟨p, hp, q1, q2, q3⟩ := zip_mem y.val he'.1
      have hperm := restK_push hlen y.borns q3 he'.2
      refine ⟨_, _, _, setB { w with drawn := k } it (.mapIter (some b) y.since (y.seen.push e.born) y.clock), ?_, .inr ⟨p.1, p.2, restK l (y.es.toList.map (·.born)) (y.seen.push e.born), y.rest.trans hperm, hp, rfl, rfl, rfl⟩, ?_⟩
      · simp only [execOp, ex]; simp [hr, q1, q2]
      · exact mpi_shut ⟨y.es, y.clock, y.since, y.seen.push e.born, y.clock, y.val, y.keys, y.borns, y.old, y.sc, y.sc, .refl _, fun _ => rfl, fun k' hk' => by
          cases hk'
          exact ⟨e, he'.1, by simp, p.2, hp, q1, q2⟩⟩ ((hs.drew k hkd).setB Upd.here))
    (fun v D' M' h => by
      rcases h with ⟨h0, e1, e2, e3⟩ | ⟨k, v, rs, h0, h3, e1, e2, e3⟩
      · subst e1; subst e2; subst e3; exact h1 h0
      · subst e1; subst e2; subst e3; exact h2 k v rs h0 h3)
theorem L.entry {x : Operand} {b it : Nat} {l : List (κ × ν)} {rest : List κ} {k : κ} {v : ν} (hinj : ∀ k' v', (k', v') ∈ l → kenc k' = kenc k → v' = v) (hd : Nat.blt d n = true) (hx : ev K x = some (.pointer (some ⟨it, 0, none⟩))) (hm : mpi b it kenc venc l rest (some k) ∈ M) (hv : (k, v) ∈ l)
    (next : TL none P σ n ops Q rest' ((d, .tuple #[kenc k, venc v]) :: K) D M) : TL none P σ n ops Q (⟨some d, .entry x, ty, pos, aft, none⟩ :: rest') K D M :=
  L.val hd (fun a w s ss => by
    obtain ⟨z, lz, y, g1, g2, l1, l2, dj, hi, ⟨g3, g4, l3, l4, dj2, hb, _⟩⟩ := ss.own hm
    have hi' : w.heap[it]? = some (.mapIter (some b) y.since y.seen y.last) := lz _ _ (l1 _ _ hi)
    have hb' : w.heap[b]? = some (.map y.es y.clock) := lz _ _ (l2 _ _ (l3 _ _ hb))
    obtain ⟨e, he, hbk, v', hv', q1, q2⟩ := y.cur k rfl
    have hvv : v' = v := hinj k v' hv' rfl
    subst hvv
    have hf : y.es.find? (·.born == e.born) = some e := by rw [← Array.find?_toList]; exact find_born e y.es.toList y.borns he
    have ex : a.eval x = _ := s.eval hx
    have hnow := y.now rfl
    refine ⟨w, ?_, ss⟩
    simp only [execOp, ex, Instr.entry, getObj, Sem.run_bind, Sem.run, hi', hb', Result.andThen, hbk, bne_self_eq_false, Bool.false_eq_true, if_false, hf]
    simp [q1, q2, hnow]) next
theorem T.mpiMp {b it : Nat} {l : List (κ × ν)} {rest : List κ} {cur : Option κ} (hM : Pull (mpi b it kenc venc l rest cur) M N) (next : T σ n G K D (mp b kenc venc l :: N)) : T σ n G K D M := fun a w s ss => by
  obtain ⟨y, hs⟩ := mpi_open (ss.ent hM)
  refine next a w s ((hs.ent (Ent.skip (.refl _))).ent (Ent.imp fun z hz => ⟨y.es, y.clock, hz, y.val, y.keys, y.borns, fun e he => Nat.lt_of_lt_of_le (y.old e he) y.sc⟩))
end
end Cv
namespace Cv
open Go
/-! ## a slice's own elements, moved within it (append of a later part onto an earlier one) -/
section
variable {P : Program} {σ : World} {n : Nat} {Q : Post} {K : Env} {D M N : List Asn} {m : Option (List Asn × List Asn)} {ops : Array Oper} {l rest : List Oper} {d : Nat} {ty : TypeId} {pos : String} {aft : Array Edge}
theorem splice_any {α : Type} (l news : List α) (o j : Nat) (h : o + news.length ≤ l.length) :
    (l.take o ++ news ++ l.drop (o + news.length))[j]? = if j < o then l[j]? else if j < o + news.length then news[j - o]? else l[j]? := by
  have h1 : (l.take o).length = o := by simp; omega
  by_cases h2 : j < o
  · rw [if_pos h2, List.append_assoc, List.getElem?_append_left (by omega), List.getElem?_take_of_lt h2]
  · rw [if_neg h2]
    by_cases h3 : j < o + news.length
    · rw [if_pos h3, List.getElem?_append_left (by simp; omega), List.getElem?_append_right (by omega), h1]
    · rw [if_neg h3, List.getElem?_append_right (by simp; omega)]
      simp only [List.length_append, h1, List.getElem?_drop]
      congr 1; omega
theorem rowsAt_splice {sz o i : Nat} {rows news : List (List Value)} {c : List Value} (h : ∀ r ∈ rows, r.length = sz) (h' : ∀ r ∈ news, r.length = sz) (hn : i + news.length ≤ rows.length)
    (H : RowsAt sz rows c.toArray o) (hc : o + rows.length * sz ≤ c.length) : RowsAt sz (rows.take i ++ news ++ rows.drop (i + news.length)) (c.take (o + i * sz) ++ news.flatten ++ c.drop (o + i * sz + news.flatten.length)).toArray o := by
  intro q p r v h1 h2
  have hf := rows_flat_len h'
  have hle : (i + news.length) * sz ≤ rows.length * sz := Nat.mul_le_mul_right _ hn
  rw [Nat.add_mul] at hle
  rw [splice_any _ _ _ _ hn] at h1
  simp only [List.getElem?_toArray]
  rw [splice_get c news.flatten (o + i * sz) (o + q * sz + p) (by rw [hf]; omega), hf]
  have hp := (List.getElem?_eq_some_iff.1 h2).1
  by_cases c1 : q < i
  · rw [if_pos c1] at h1
    have hr := h r (List.mem_of_getElem? h1)
    have : (q + 1) * sz ≤ i * sz := Nat.mul_le_mul_right _ c1
    rw [Nat.add_mul] at this
    rw [if_pos (by omega)]
    simpa using H q p r v h1 h2
  · rw [if_neg c1] at h1
    have h3 : i * sz ≤ q * sz := Nat.mul_le_mul_right _ (by omega)
    by_cases c2 : q < i + news.length
    · rw [if_pos c2] at h1
      have hr := h' r (List.mem_of_getElem? h1)
      have : (q + 1) * sz ≤ (i + news.length) * sz := Nat.mul_le_mul_right _ c2
      rw [Nat.add_mul, Nat.add_mul] at this
      rw [if_neg (by omega), if_pos (by omega)]
      have h4 := flatten_at h' h1 h2
      rw [Nat.sub_mul] at h4
      rw [show o + q * sz + p - (o + i * sz) = q * sz - i * sz + p from by omega]
      exact h4
    · rw [if_neg c2] at h1
      have : (i + news.length) * sz ≤ q * sz := Nat.mul_le_mul_right _ (by omega)
      rw [Nat.add_mul] at this
      rw [if_neg (by omega), if_neg (by omega)]
      simpa using H q p r v h1 h2
theorem sat_splice {w : World} {sz b o len cap i : Nat} {e : TypeId} {rows news : List (List Value)} (ss : Sat σ D (own sz e (some ⟨b, o, none⟩) len cap rows :: N) w) (h' : ∀ r ∈ news, r.length = sz) (hn : i + news.length ≤ len) :
    ∃ cs : List Value, w.heap[b]? = some (.cells cs.toArray e (0, 0)) ∧ o + len * sz ≤ cs.length ∧ (∀ r ∈ rows, r.length = sz) ∧ RowsAt sz rows cs.toArray o ∧ len ≤ cap ∧
      Sat σ D (own sz e (some ⟨b, o, none⟩) len cap (rows.take i ++ news ++ rows.drop (i + news.length)) :: N) (setB w b (.cells (cs.take (o + i * sz) ++ news.flatten ++ cs.drop (o + i * sz + news.flatten.length)).toArray e (0, 0))) := by
  obtain ⟨z, k, h1, h2, h3, h4, ⟨g1, g2, l1, l2, dj, H, hN⟩⟩ := ss.heap
  obtain ⟨e1, e2, e3, e4⟩ := H
  rcases e4 with ⟨e4, _⟩ | ⟨b', o', cs, e4, e5, e6, e7⟩
  · cases e4
  injection e4 with e4; injection e4 with e8 e9
  subst e8; subst e9
  have hb : w.heap[b]? = some (.cells cs e (0, 0)) := h2 _ _ (l1 _ _ e5)
  have hle : len * sz ≤ cap * sz := Nat.mul_le_mul_right _ e2
  have hf := rows_flat_len h'
  have hle2 : (i + news.length) * sz ≤ len * sz := Nat.mul_le_mul_right _ hn
  rw [Nat.add_mul] at hle2
  have hcs : o + len * sz ≤ cs.toList.length := by rw [Array.length_toList]; omega
  refine ⟨cs.toList, by simpa using hb, hcs, e3, by simpa using e7, e2, ?_⟩
  have s2 : Sat σ D (pt b (.cells cs e (0, 0)) :: N) w := ⟨ss.os, ss.tape, ss.output, z, k, h1, h2, h3, h4, g1, g2, l1, l2, dj, e5, hN⟩
  refine (s2.setB (o' := .cells (cs.toList.take (o + i * sz) ++ news.flatten ++ cs.toList.drop (o + i * sz + news.flatten.length)).toArray e (0, 0)) Upd.here).ent (Ent.imp fun h hp => ?_)
  refine ⟨by simp; omega, e2, fun r' hr' => ?_, .inr ⟨b, o, _, rfl, hp, ?_, rowsAt_splice e3 h' (by omega) (by simpa using e7) (by rw [e1]; exact hcs)⟩⟩
  · rcases List.mem_append.1 hr' with h | h
    · rcases List.mem_append.1 h with h | h
      · exact e3 _ (List.mem_of_mem_take h)
      · exact h' _ h
    · exact e3 _ (List.mem_of_mem_drop h)
  · rw [List.size_toArray, List.length_append, List.length_append, List.length_take, List.length_drop, hf]
    rw [Array.length_toList] at hcs ⊢
    omega
theorem L.appendIn {t e : TypeId} {x y : Operand} {b o len cap i j sz bytes : Nat} {rows : List (List Value)} (hd : Nat.blt d n = true) (hU : P.underlying t = some (.slice e)) (hE : El P e sz bytes)
    (hx : ev K x = some (.slice (some ⟨b, o, none⟩) i cap)) (hy : ev K y = some (.slice (cutA (some ⟨b, o, none⟩) cap j sz) (len - j) (cap - j))) (hM : Pull (own sz e (some ⟨b, o, none⟩) len cap rows) M N)
    (hi : i ≤ j) (hj : j ≤ len) (hl : rows.length = len) (h1 : ∀ u ∈ rows.flatten, u.oneCell' = true)
    (next : TL none P σ n ops Q rest ((d, .slice (some ⟨b, o, none⟩) (i + (len - j)) cap) :: K) D (own sz e (some ⟨b, o, none⟩) len cap (rows.take i ++ rows.drop j ++ rows.drop (i + (len - j))) :: N)) :
    TL none P σ n ops Q (⟨some d, .call { callee := .builtin .append, args := #[x, y], argTypes := #[t, t] }, ty, pos, aft, none⟩ :: rest) K D M :=
  L.valEx hd (fun v D' M' => v = .slice (some ⟨b, o, none⟩) (i + (len - j)) cap ∧ D' = D ∧ M' = own sz e (some ⟨b, o, none⟩) len cap (rows.take i ++ rows.drop j ++ rows.drop (i + (len - j))) :: N) (fun aa w s ss => by
    have ss1 := ss.ent hM
    have hr : ∀ r ∈ rows.drop j, r.length = sz := by
      obtain ⟨y, ly, H⟩ := ss1.own (.head _)
      exact fun r hr => H.2.2.1 r (List.mem_of_mem_drop hr)
    have hdl : (rows.drop j).length = len - j := by rw [List.length_drop, hl]
    obtain ⟨cs, hb, hfit, hrs, hra, hlc, hS⟩ := sat_splice (i := i) (news := rows.drop j) ss1 hr (by omega)
    obtain ⟨ii, z, hii, hz, hsz, hby, hzs⟩ := hE
    have hf := rows_flat_len hr
    rw [hdl] at hf
    have hle2 : (i + (len - j)) * sz ≤ len * sz := Nat.mul_le_mul_right _ (by omega)
    rw [Nat.add_mul] at hle2
    have hfl := rowsAt_flat hrs hra
    have hcut : ∃ p, cutA (some ⟨b, o, none⟩) cap j sz = some p ∧ ∀ q u, (rows.drop j).flatten[q]? = some u → w.cell? (p.add q) = some u := by
      unfold cutA
      by_cases hc : cap = j
      · refine ⟨_, if_pos hc, fun q u hq => ?_⟩
        have : rows.drop j = [] := List.drop_of_length_le (by omega)
        rw [this] at hq; simp at hq
      · refine ⟨_, if_neg hc, fun q u hq => ?_⟩
        have hd2 : rows.flatten[j * sz + q]? = some u := by
          rw [← List.take_append_drop j rows, List.flatten_append, List.getElem?_append_right (by rw [rows_flat_len (sz := sz) (fun r hr => hrs r (List.mem_of_mem_take hr))]; simp; rw [hl, Nat.min_eq_left hj]; omega)]
          rw [rows_flat_len (sz := sz) (fun r hr => hrs r (List.mem_of_mem_take hr)), List.length_take, hl, Nat.min_eq_left hj]
          simpa using hq
        have := hfl _ _ hd2
        show w.cell? ((Addr.add ⟨b, o, none⟩ (j * sz)).add q) = some u
        rw [add_lit, add_lit, cell_of hb, Nat.add_assoc]
        exact this
    obtain ⟨p, hp, hcell⟩ := hcut
    have hrun := run_append_in (P := P) w t ty e ii hU hii b o i cap cs.toArray hb p (len - j) (cap - j) (rows.drop j).flatten (by rw [hf, hsz]) hcell (fun u hu => h1 u (by
      obtain ⟨r, hr, hu⟩ := List.mem_flatten.1 hu
      exact List.mem_flatten.2 ⟨r, List.mem_of_mem_drop hr, hu⟩)) (by omega) (by rw [hf, hsz, List.size_toArray]; omega)
    rw [setRow_setB hb, hsz] at hrun
    rw [hdl] at hS
    refine ⟨_, _, _, _, ?_, ⟨rfl, rfl, rfl⟩, hS⟩
    have ex : aa.eval x = _ := s.eval hx
    have ey : aa.eval y = _ := s.eval hy
    rw [hp] at ey
    simp [execOp, resolve, invoke, builtin, ex, ey, hrun]) (fun v D' M' ⟨e1, e2, e3⟩ => by subst e1; subst e2; subst e3; exact next)
/-- s[l:h:mx] -/
theorem L.sliceMax {t e : TypeId} {x mx : Operand} {lo hi : Option Operand} {a : Option Addr} {len cap l h mm sz : Nat} {k : IntKind} (hd : Nat.blt d n = true) (hU : P.underlying t = some (.slice e)) (hz : Sz P e sz) (hx : ev K x = some (.slice a len cap)) (hlo : Bd K lo 0 l) (hhi : ∃ y k z, hi = some y ∧ ev K y = some (.int k z) ∧ z = (h : Int)) (hmx : ev K mx = some (.int k (mm : Int)))
    (h1 : l ≤ h) (h2 : h ≤ mm) (h3 : mm ≤ cap) (next : TL m P σ n ops Q rest ((d, .slice (cutA a mm l sz) (h - l) (mm - l)) :: K) D M) :
    TL m P σ n ops Q (⟨some d, .slice t x lo hi (some mx), ty, pos, aft, none⟩ :: rest) K D M :=
  L.pureOp hd (fun ρ w s => by
    have e1 := s hx
    have e0 := s hmx
    obtain ⟨y, kk, z, rfl, hy, rfl⟩ := hhi
    have e4 := s hy
    have e2 : (Instr.sliceBounds true len cap (lo.map ρ) (some (.int kk (h : Int))) (some (.int k (mm : Int)))).run P w = .ok (l, h, mm) w := by
      rcases (hlo.val s) with ⟨hl, rfl⟩ | ⟨kl, hl⟩ <;> simp [Instr.sliceBounds, run_sliceBound, h1, h2, h3, hl]
    have e3 := hz w
    simp only [execOp, e1, Option.map_some, e0, e4]
    simp [Instr.sliceAt, run_underlying hU, Instr.slice, e2, e3, cutA]) next
end
end Cv
namespace Cv
open Go
section
variable {κ ν : Type} [DecidableEq κ]
theorem look_of_mem {l : List (κ × ν)} (hn : (l.map Prod.fst).Nodup) {k : κ} {v : ν} (h : (k, v) ∈ l) : look l k = some v := by
  induction l with
  | nil => cases h
  | cons p l ih =>
    obtain ⟨k', v'⟩ := p
    simp only [List.map_cons, List.nodup_cons] at hn
    rcases List.mem_cons.1 h with e | e
    · cases e; simp [look]
    · have hne : k' ≠ k := by
        rintro rfl
        exact hn.1 (List.mem_map_of_mem (f := Prod.fst) e)
      simp only [look, if_neg hne]
      exact ih hn.2 e
theorem ent_inj {l : List (κ × ν)} {kenc : κ → Value} {k : κ} {v : ν} (hinj : ∀ a b, kenc a = kenc b → a = b) (hn : (l.map Prod.fst).Nodup) (hv : (k, v) ∈ l) : ∀ k' v', (k', v') ∈ l → kenc k' = kenc k → v' = v := fun k' v' h e => by
  obtain rfl := hinj _ _ e
  have h1 := look_of_mem hn h
  rw [look_of_mem hn hv] at h1
  exact (Option.some.inj h1).symm
theorem iK_inj (a b : Int) (h : iK a = iK b) : a = b := by unfold iK at h; injection h
end
section
variable {σ : World} {n : Nat} {G : Act → World → Prop} {K : Env} {D M N : List Asn} {κ ν : Type} {kenc : κ → Value} {venc : ν → Value}
theorem T.mpNodup {b : Nat} {l : List (κ × ν)} (hm : mp b kenc venc l ∈ M) (next : (l.map Prod.fst).Nodup → T σ n G K D M) : T σ n G K D M :=
  T.pure hm (fun z ⟨_, _, _, _, h, _⟩ => h) next
end
section
variable {P : Program} {σ : World} {n : Nat} {Q : Post} {K : Env} {D M : List Asn} {m : Option (List Asn × List Asn)} {ops : Array Oper} {rest : List Oper} {d : Nat} {ty : TypeId} {pos : String} {aft : Array Edge} {κ ν : Type} [DecidableEq κ] {kenc : κ → Value} {venc : ν → Value}
theorem L.lenMap {t kt et : TypeId} {x : Operand} {b : Nat} {l : List (κ × ν)} (hd : Nat.blt d n = true) (hU : P.underlying t = some (.map kt et)) (hx : ev K x = some (.map (some b))) (hm : mp b kenc venc l ∈ M) (next : TL m P σ n ops Q rest ((d, .int .i64 l.length) :: K) D M) :
    TL m P σ n ops Q (⟨some d, .call { callee := .builtin .len, args := #[x], argTypes := #[t] }, ty, pos, aft, none⟩ :: rest) K D M :=
  L.quiet hd (fun a w s ss => by
    obtain ⟨es, clock, h1, h2⟩ := mp_run ss hm
    have ex : a.eval x = _ := s.eval hx
    have hl : es.size = l.length := by have := congrArg List.length h2; simpa using this
    have hr : (Builtin.len_ #[t] ty #[.map (some b)]).run P w = .ok (.int .i64 l.length) w := by
      unfold Builtin.len_
      have hg : (getObj b).run P w = .ok (.map es clock) w := by simp [getObj, Sem.run, h1]
      show Sem.run P (underlying t >>= _) w = _
      rw [Sem.run_bind, run_underlying hU, Result.andThen_ok]
      show Sem.run P (getObj b >>= _) w = _
      rw [Sem.run_bind, hg, Result.andThen_ok]
      show Sem.run P (Pure.pure (goInt es.size)) w = _
      rw [hl]; rfl
    simp only [execOp, resolve, List.map_toArray, List.map_cons, List.map_nil, ex]
    simp [invoke, builtin, hr, go_sem]) next
end
end Cv
namespace Cv
open Go
/-! ## keys: strings, and arrays of bytes -/
theorem bytes_beq (a b : List UInt8) : ((ByteArray.mk a.toArray) == (ByteArray.mk b.toArray)) = decide (a = b) := by
  show (a.toArray == b.toArray) = decide (a = b)
  by_cases h : a = b
  · subst h; simp
  · have hne : a.toArray ≠ b.toArray := fun e => h (by injection e)
    rw [decide_eq_false h]
    exact beq_eq_false_iff_ne.2 hne
theorem keyT_str {P : Program} {t : TypeId} (ht : P.underlying t = some .string) : KeyT P t S where
  check e k w := by rw [show (10000 : Nat) = 9999 + 1 from rfl, Instr.checkKey]; simp [run_underlying ht, S]
  find venc k es l w h := by
    have key : ∀ (es : List MapEntry) (l : List (List UInt8 × _)) (i : Nat), es.map (fun e => (e.key, e.val)) = l.map (fun p => (S p.1, venc p.2)) →
        Instr.findNow .string (S k) es i = some ((lookI l k i).map fun p => (p.1, venc p.2)) := by
      intro es
      induction es with
      | nil => intro l i h; cases l with
        | nil => rfl
        | cons p l => simp at h
      | cons e es ih => intro l i h; cases l with
        | nil => simp at h
        | cons p l =>
          obtain ⟨k', v⟩ := p
          simp only [List.map_cons, List.cons.injEq, Prod.mk.injEq] at h
          obtain ⟨⟨h1, h2⟩, h3⟩ := h
          simp only [Instr.findNow, h1, S, Instr.sameNow, lookI, bytes_beq]
          by_cases e1 : k' = k
          · simp [e1, h2]
          · have : decide (k = k') = false := by simp; exact fun h => e1 h.symm
            simp only [this, if_neg e1]
            exact ih l (i + 1) h3
    simp [Instr.findKey, run_underlying ht, key es l 0 h]
  same k := by rw [show (10000 : Nat) = 9999 + 1 from rfl]; simp [Instr.sameBits, S, bytes_beq]
end Cv
namespace Cv
open Go
/-! ## keys that are arrays of bytes -/
abbrev ID32 := {l : List UInt8 // l.length = 32}
@[reducible] def aK (k : ID32) : Value := .agg (k.1.map Y).toArray
theorem sameBits_Y (n : Nat) (b : UInt8) : Instr.sameBits n (Y b) (Y b) = true := by
  cases n <;> simp [Y, Instr.sameBits]
theorem keyT_arr {P : Program} {t e : TypeId} (hU : P.underlying t = some (.array 32 e)) (hE : P.underlying e = some (.int .u8)) (hz : Sc P e) : KeyT P t aK where
  check em k w := by
    have h2 := (hz w).2
    have h1 := (hz w).1
    rw [show (10000 : Nat) = 9999 + 1 from rfl, Instr.checkKey]
    simp only [Sem.run_bind, run_underlying hU, Result.andThen]
    simp only [Std.Legacy.Range.forIn_eq_forIn_range', Std.Legacy.Range.size]
    have key : ∀ (m o : Nat), o + m = 32 → (Sem.run P (forIn (List.range' o m 1) PUnit.unit fun i (_ : PUnit) => do
          let s ← sizeOf e
          let a ← Go.part e (k.1.map Y).toArray (i * s)
          Instr.checkKey em 9999 e a
          pure (ForInStep.yield PUnit.unit)) w) = .ok PUnit.unit w := by
      intro m
      induction m with
      | zero => intro o h; simp
      | succ m ih =>
        intro o h
        have ho : o < k.1.length := by have := k.2; omega
        rw [List.range'_succ, List.forIn_cons]
        have p1 : (Go.part e (k.1.map Y).toArray o).run P w = .ok (Y k.1[o]) w := by
          simp [Go.part, h1, ho]
        have p2 : (Instr.checkKey em 9999 e (Y k.1[o])).run P w = .ok () w := by
          rw [show (9999 : Nat) = 9998 + 1 from rfl, Instr.checkKey]; simp [run_underlying hE, Y]
        have := ih (o + 1) (by omega)
        simp only [Sem.run_bind, h2, Result.andThen_ok, Nat.mul_one, p1, p2, Sem.run_pure]
        exact this
    have h3 := key 32 0 (by omega)
    simp at h3 ⊢
    rw [h3]
  find venc k es l w h := by
    rw [run_findKey_eq w (by rw [hU])]
    have key : ∀ (es : List MapEntry) (l : List (ID32 × _)) (i : Nat), es.map (fun e => (e.key, e.val)) = l.map (fun p => (aK p.1, venc p.2)) →
        (Instr.findAsking t (aK k) es i).run P w = .ok ((lookI l k i).map fun p => (p.1, venc p.2)) w := by
      intro es
      induction es with
      | nil => intro l i h; cases l with
        | nil => simp [Instr.findAsking, lookI]
        | cons p l => simp at h
      | cons e0 es ih => intro l i h; cases l with
        | nil => simp at h
        | cons p l =>
          obtain ⟨k', v⟩ := p
          simp only [List.map_cons, List.cons.injEq, Prod.mk.injEq] at h
          obtain ⟨⟨h1, h2⟩, h3⟩ := h
          have hq := run_eqArr hU hE hz (xs := k.1.map (fun b => (b.toNat : Int))) (ys := k'.1.map (fun b => (b.toNat : Int))) (by simpa using k.2) (by simpa using k'.2) w
          rw [← Y_int, ← Y_int] at hq
          simp only [Instr.findAsking, Sem.run_bind, h1, aK, hq, Result.andThen_ok, toNat_inj, lookI]
          by_cases e1 : k' = k
          · subst e1; simp [h2]
          · have : ¬ k.1 = k'.1 := fun e => e1 (Subtype.ext e.symm)
            simp only [this, decide_false, Bool.false_eq_true, if_false, if_neg e1]
            exact ih l (i + 1) h3
    exact key es l 0 h
  same k := by
    rw [show (10000 : Nat) = 9999 + 1 from rfl]
    simp only [aK, Instr.sameBits, beq_self_eq_true, Bool.true_and, List.all_eq_true]
    intro p hp
    have : ∀ (l : List Value), (∀ v ∈ l, ∃ b, v = Y b) → ∀ p ∈ l.zip l, Instr.sameBits 9999 p.1 p.2 = true := by
      intro l
      induction l with
      | nil => intro _ p hp; simp at hp
      | cons v l ih =>
        intro h p hp
        simp only [List.zip_cons_cons, List.mem_cons] at hp
        rcases hp with rfl | hp
        · obtain ⟨b, rfl⟩ := h v (by simp)
          exact sameBits_Y _ b
        · exact ih (fun u hu => h u (by simp [hu])) p hp
    exact this (k.1.map Y) (fun v hv => by
      obtain ⟨b, _, rfl⟩ := List.mem_map.1 hv
      exact ⟨b, rfl⟩) p hp
theorem aK_inj (a b : ID32) (h : aK a = aK b) : a = b := by
  unfold aK at h
  have h2 : (a.1.map Y) = (b.1.map Y) := by injection h with h; injection h
  rw [Y_int, Y_int] at h2
  have h3 : a.1.map (fun b => (b.toNat : Int)) = b.1.map (fun b => (b.toNat : Int)) := (List.map_inj_right (fun x y h => by injection h)).1 h2
  exact Subtype.ext (toNat_inj.1 h3)
section
variable {P : Program} {σ : World} {n : Nat} {Q : Post} {K : Env} {D M : List Asn} {m : Option (List Asn × List Asn)} {ops : Array Oper} {rest : List Oper} {d : Nat} {ty : TypeId} {pos : String} {aft : Array Edge}
variable {κ ν : Type} [DecidableEq κ] {kenc : κ → Value} {venc : ν → Value}
theorem run_equal_nilMap {P : Program} {t kt et : TypeId} {a : Option Nat} (hU : P.underlying t = some (.map kt et)) (w : World) : (Op.equal t (.map a) (.map none)).run P w = .ok a.isNone w := by
  unfold Op.equal
  rw [show Op.maxDepth = 9999 + 1 from rfl, Op.equalIn]
  cases a <;> simp [run_underlying hU]
theorem L.eqlMap {x y : Operand} {t t' kt et : TypeId} {a : Option Nat} (hd : Nat.blt d n = true) (hU : P.underlying t = some (.map kt et)) (hx : ev K x = some (.map a)) (hy : ev K y = some (.map none)) (next : TL m P σ n ops Q rest ((d, .bool a.isNone) :: K) D M) :
    TL m P σ n ops Q (⟨some d, .binOp .eql t x y t', ty, pos, aft, none⟩ :: rest) K D M :=
  L.pureOp hd (fun ρ w s => by
    have h1 := s hx
    have h2 := s hy
    have h3 := run_equal_nilMap (a := a) hU w
    simp only [execOp, h1, h2, eqGuard_at_map, binOp]
    simp [h3]) next
/-! ## delete -/
omit [DecidableEq κ] in
theorem map_erase {α β : Type} {f : α → β} : ∀ {l : List α} {i : Nat}, (l.eraseIdx i).map f = (l.map f).eraseIdx i
  | [], _ => rfl
  | _ :: _, 0 => rfl
  | x :: l, i + 1 => by simp only [List.eraseIdx_cons_succ, List.map_cons, map_erase]
theorem mp_delete {t kt et u ty : TypeId} {b : Nat} {k : κ} {l : List (κ × ν)} {w : World} {N : List Asn} (hU : P.underlying t = some (.map kt et)) (hK : KeyT P kt kenc) (hm : Pull (mp b kenc venc l) M N) (ss : Sat σ D M w) :
    ∃ w', (Builtin.delete_ #[t, u] ty #[.map (some b), kenc k]).run P w = .ok (.tuple #[]) w' ∧ Sat σ D (mp b kenc venc (del l k) :: N) w' := by
  have s1 := ss.ent hm
  obtain ⟨es, s2⟩ := s1.ex (A := fun es h => ∃ clock, h b = some (.map es clock) ∧ es.toList.map (fun e => (e.key, e.val)) = l.map (fun p => (kenc p.1, venc p.2)) ∧ (l.map Prod.fst).Nodup ∧ (es.toList.map (·.born)).Nodup ∧ ∀ e ∈ es.toList, e.born < clock)
  obtain ⟨clock, s3⟩ := s2.ex
  obtain ⟨y, ly, h1, h2, h3, h4, h5⟩ := s3.own (.head _)
  have hb : w.heap[b]? = some (.map es clock) := ly _ _ h1
  have s4 : Sat σ D (pt b (.map es clock) :: N) w := s3.ent (Ent.imp fun h hh => hh.1)
  have hg : (getObj b).run P w = .ok (.map es clock) w := by simp [getObj, Sem.run, hb]
  have c1 := hK.check es.isEmpty k w
  have c2 := hK.find venc k es.toList l w h2
  have so := fun o' => setB_setObj (P := P) (o' := o') hb (by intros; exact fun h => by cases h)
  cases hl : look l k with
  | none =>
    rw [lookI_none hl] at c2
    refine ⟨setB w b (.map es clock), by simp [Builtin.delete_, run_underlying hU, hg, c1, c2, so], (s4.setB Upd.here).ent (Ent.imp fun h hh => ⟨_, _, hh, ?_, nodup_del h3, h4, h5⟩)⟩
    rw [del_none hl]; exact h2
  | some v =>
    obtain ⟨j, h6, h7, _, h8⟩ := lookI_some (i := 0) hl
    rw [h6] at c2
    have hlen : es.toList.length = l.length := by simpa using congrArg List.length h2
    have hj : j < l.length := (List.getElem?_eq_some_iff.1 h7).1
    have hje : j < es.size := by rw [← hlen] at hj; simpa using hj
    have he : (es.eraseIdxIfInBounds j).toList = es.toList.eraseIdx j := by
      rw [Array.eraseIdxIfInBounds, dif_pos hje, Array.toList_eraseIdx]
    refine ⟨setB w b (.map (es.eraseIdxIfInBounds j) clock), by simp [Builtin.delete_, run_underlying hU, hg, c1, c2, so], (s4.setB Upd.here).ent (Ent.imp fun h hh => ⟨_, _, hh, ?_, nodup_del h3, ?_, ?_⟩)⟩
    · rw [he, h8, map_erase, h2, map_erase]
    · rw [he, map_erase]; exact List.Sublist.nodup (List.eraseIdx_sublist _ _) h4
    · intro e hm
      rw [he] at hm
      exact h5 e (List.mem_of_mem_eraseIdx hm)
theorem L.delete {t kt et u : TypeId} {x y : Operand} {b : Nat} {k : κ} {l : List (κ × ν)} {N : List Asn} (hU : P.underlying t = some (.map kt et)) (hK : KeyT P kt kenc)
    (hx : ev K x = some (.map (some b))) (hy : ev K y = some (kenc k)) (hm : Pull (mp b kenc venc l) M N)
    (next : TL none P σ n ops Q rest K D (mp b kenc venc (del l k) :: N)) : TL none P σ n ops Q (⟨none, .call { callee := .builtin .delete, args := #[x, y], argTypes := #[t, u] }, ty, pos, aft, none⟩ :: rest) K D M :=
  L.effV (v := .tuple #[]) (fun a w s ss => by
    obtain ⟨w', hr, hs⟩ := mp_delete (u := u) (ty := ty) (k := k) hU hK hm ss
    refine ⟨w', ?_, hs⟩
    have ex : a.eval x = _ := s.eval hx
    have ey : a.eval y = _ := s.eval hy
    simp only [execOp, resolve, List.map_toArray, List.map_cons, List.map_nil, ex, ey]
    simp [invoke, builtin, hr, go_sem]) next
theorem zip_erase {α β : Type} : ∀ {l : List α} {m : List β} {j : Nat}, (l.eraseIdx j).zip (m.eraseIdx j) = (l.zip m).eraseIdx j
  | [], m, j => by simp
  | x :: l, [], j => by simp
  | x :: l, y :: m, 0 => rfl
  | x :: l, y :: m, j + 1 => by simp only [List.eraseIdx_cons_succ, List.zip_cons_cons, zip_erase]
theorem filter_erase {α : Type} {p : α → Bool} : ∀ {l : List α} {j : Nat} {x : α}, l[j]? = some x → p x = false → (l.eraseIdx j).filter p = l.filter p
  | [], j, x, h, _ => by simp at h
  | y :: l, 0, x, h, hp => by
    simp at h; subst h
    simp [hp]
  | y :: l, j + 1, x, h, hp => by
    have := filter_erase (l := l) (j := j) (by simpa using h) hp
    simp only [List.eraseIdx_cons_succ, List.filter_cons, this]
/-- the entry that one stands at goes -/
theorem L.deleteI {t kt et u : TypeId} {x y : Operand} {b it : Nat} {k : κ} {v0 : ν} {l : List (κ × ν)} {rest' : List κ} {cur : Option κ} {N : List Asn} (hU : P.underlying t = some (.map kt et)) (hK : KeyT P kt kenc)
    (hx : ev K x = some (.map (some b))) (hy : ev K y = some (kenc k)) (hl : look l k = some v0) (hk : k ∉ rest') (hm : Pull (mpi b it kenc venc l rest' cur) M N)
    (next : TL none P σ n ops Q rest K D (mpi b it kenc venc (del l k) rest' none :: N)) : TL none P σ n ops Q (⟨none, .call { callee := .builtin .delete, args := #[x, y], argTypes := #[t, u] }, ty, pos, aft, none⟩ :: rest) K D M :=
  L.effV (v := .tuple #[]) (fun a w s ss => by
    obtain ⟨q, hs⟩ := mpi_open (ss.ent hm)
    have hb : w.heap[b]? = some (.map q.es q.clock) := hs.block (.tail _ (.head _))
    have h2 := q.val
    have hg : (getObj b).run P w = .ok (.map q.es q.clock) w := by simp [getObj, Sem.run, hb]
    have c1 := hK.check q.es.isEmpty k w
    have c2 := hK.find venc k q.es.toList l w h2
    have so := fun o' => setB_setObj (P := P) (o' := o') hb (by intros; exact fun h => by cases h)
    obtain ⟨j, h6, h7, _, h8⟩ := lookI_some (i := 0) hl
    rw [h6] at c2
    have hlen : q.es.toList.length = l.length := by simpa using congrArg List.length h2
    have hj : j < l.length := (List.getElem?_eq_some_iff.1 h7).1
    have hje : j < q.es.size := by rw [← hlen] at hj; simpa using hj
    have he : (q.es.eraseIdxIfInBounds j).toList = q.es.toList.eraseIdx j := by
      rw [Array.eraseIdxIfInBounds, dif_pos hje, Array.toList_eraseIdx]
    have hr : (Builtin.delete_ #[t, u] ty #[.map (some b), kenc k]).run P w = .ok (.tuple #[]) (setB w b (.map (q.es.eraseIdxIfInBounds j) q.clock)) := by
      simp [Builtin.delete_, run_underlying hU, hg, c1, c2, so]
    refine ⟨_, ?_, mpi_shut (l := del l k) (rest := rest') (cur := none) ⟨q.es.eraseIdxIfInBounds j, q.clock, q.since, q.seen, q.last, ?_, nodup_del q.keys, ?_, ?_, q.sc, q.sl, ?_, (fun h => by cases h), (fun k h => by cases h)⟩ (hs.setB (Upd.there Upd.here))⟩
    · have ex : a.eval x = _ := s.eval hx
      have ey : a.eval y = _ := s.eval hy
      simp only [execOp, resolve, List.map_toArray, List.map_cons, List.map_nil, ex, ey]
      simp [invoke, builtin, hr, go_sem]
    · rw [he, h8, map_erase, h2, map_erase]
    · rw [he, map_erase]; exact List.Sublist.nodup (List.eraseIdx_sublist _ _) q.borns
    · intro e hm
      rw [he] at hm
      exact q.old e (List.mem_of_mem_eraseIdx hm)
    · refine q.rest.trans (List.Perm.of_eq ?_)
      have hbl : (q.es.toList.map (·.born)).length = l.length := by rw [List.length_map]; exact hlen
      have hz : (l.zip (q.es.toList.map (·.born)))[j]? = some ((k, v0), (q.es.toList.map (·.born))[j]'(by omega)) := by
        rw [List.getElem?_zip_eq_some]; exact ⟨h7, List.getElem?_eq_getElem _⟩
      have hseen : (fun p : (κ × ν) × Nat => !q.seen.contains p.2) ((k, v0), (q.es.toList.map (·.born))[j]'(by omega)) = false := by
        cases hc : (fun p : (κ × ν) × Nat => !q.seen.contains p.2) ((k, v0), (q.es.toList.map (·.born))[j]'(by omega)) with
        | false => rfl
        | true =>
          refine absurd (q.rest.mem_iff.2 ?_) hk
          unfold restK
          exact List.mem_map.2 ⟨_, List.mem_filter.2 ⟨List.mem_of_getElem? hz, hc⟩, rfl⟩
      unfold restK
      rw [he, h8, map_erase, zip_erase, filter_erase hz hseen]) next
/-! ## a map that isn't there -/
theorem L.lookupNil {t kt et : TypeId} {x y : Operand} {k : κ} {z : Value} {ok : Bool} (hd : Nat.blt d n = true) (hU : P.underlying t = some (.map kt et)) (hK : KeyT P kt kenc) (hz : ∀ w, (zeroValue et).run P w = .ok z w)
    (hx : ev K x = some (.map none)) (hy : ev K y = some (kenc k))
    (next : TL m P σ n ops Q rest ((d, if ok then .tuple #[z, .bool false] else z) :: K) D M) : TL m P σ n ops Q (⟨some d, .lookup t x y ok, ty, pos, aft, none⟩ :: rest) K D M :=
  L.quiet hd (fun a w s ss => by
    have c1 := hK.check true k w
    have c2 := hK.find (fun _ : Unit => Value.tuple #[]) k [] [] w rfl
    have ex : a.eval x = _ := s.eval hx
    have ey : a.eval y = _ := s.eval hy
    simp only [execOp, ex, ey]
    have h0 : lookI ([] : List (κ × Unit)) k 0 = none := rfl
    rw [h0] at c2
    simp [Instr.lookup, run_underlying hU, c1, c2, hz]) next
theorem L.lenNil {t kt et : TypeId} {x : Operand} (hd : Nat.blt d n = true) (hU : P.underlying t = some (.map kt et)) (hx : ev K x = some (.map none)) (next : TL m P σ n ops Q rest ((d, .int .i64 0) :: K) D M) :
    TL m P σ n ops Q (⟨some d, .call { callee := .builtin .len, args := #[x], argTypes := #[t] }, ty, pos, aft, none⟩ :: rest) K D M :=
  L.quiet hd (fun a w s ss => by
    have ex : a.eval x = _ := s.eval hx
    have hr : (Builtin.len_ #[t] ty #[.map none]).run P w = .ok (.int .i64 0) w := by
      unfold Builtin.len_
      show Sem.run P (underlying t >>= _) w = _
      rw [Sem.run_bind, run_underlying hU, Result.andThen_ok]
      rfl
    simp only [execOp, resolve, List.map_toArray, List.map_cons, List.map_nil, ex]
    simp [invoke, builtin, hr, go_sem]) next
theorem L.deleteNil {t kt et u : TypeId} {x y : Operand} {k : κ} (hU : P.underlying t = some (.map kt et)) (hK : KeyT P kt kenc)
    (hx : ev K x = some (.map none)) (hy : ev K y = some (kenc k))
    (next : TL none P σ n ops Q rest K D M) : TL none P σ n ops Q (⟨none, .call { callee := .builtin .delete, args := #[x, y], argTypes := #[t, u] }, ty, pos, aft, none⟩ :: rest) K D M :=
  L.effV (v := .tuple #[]) (fun a w s ss => by
    have c1 := hK.check true k w
    have hr : (Builtin.delete_ #[t, u] ty #[.map none, kenc k]).run P w = .ok (.tuple #[]) w := by
      simp [Builtin.delete_, run_underlying hU, c1]
    refine ⟨w, ?_, ss⟩
    have ex : a.eval x = _ := s.eval hx
    have ey : a.eval y = _ := s.eval hy
    simp only [execOp, resolve, List.map_toArray, List.map_cons, List.map_nil, ex, ey]
    simp [invoke, builtin, hr, go_sem]) next
abbrev itN (it : Nat) : Asn := pt it (.mapIter none 0 #[] 0)
theorem L.rangeNil {t kt et : TypeId} {x : Operand} (hd : Nat.blt d n = true) (hU : P.underlying t = some (.map kt et)) (hx : ev K x = some (.map none))
    (next : ∀ it, TL none P σ n ops Q rest ((d, .pointer (some ⟨it, 0, none⟩)) :: K) D (itN it :: M)) : TL none P σ n ops Q (⟨some d, .range t x, ty, pos, aft, none⟩ :: rest) K D M :=
  L.valEx hd (fun v D' M' => ∃ it, v = .pointer (some ⟨it, 0, none⟩) ∧ D' = D ∧ M' = itN it :: M) (fun a w s ss => by
    have ex : a.eval x = _ := s.eval hx
    refine ⟨_, _, _, w.alloc (.mapIter none 0 #[] 0), ?_, ⟨w.heap.size, rfl, rfl, rfl⟩, ss.alloc _⟩
    simp only [execOp, ex]; simp [Instr.range, run_underlying hU])
    (fun v D' M' ⟨it, e1, e2, e3⟩ => by subst e1; subst e2; subst e3; exact next it)
theorem L.nextNil {x : Operand} {it : Nat} (hd : Nat.blt d n = true) (hx : ev K x = some (.pointer (some ⟨it, 0, none⟩))) (hM : itN it ∈ M)
    (next : TL none P σ n ops Q rest ((d, .tuple #[.bool false]) :: K) D M) :
    TL none P σ n ops Q (⟨some d, .next x false, ty, pos, aft, none⟩ :: rest) K D M :=
  L.valEx hd (fun u D' M' => u = .tuple #[.bool false] ∧ D' = D ∧ M' = M) (fun a w s ss => by
    have hi := ss.block hM
    have ex : a.eval x = _ := s.eval hx
    refine ⟨_, _, _, w, ?_, ⟨rfl, rfl, rfl⟩, ss⟩
    have hg : (getObj it).run P w = .ok (.mapIter none 0 #[] 0) w := by simp [getObj, Sem.run, hi]
    simp only [execOp, ex]; simp [Instr.next, hg]) (fun v D' M' ⟨e1, e2, e3⟩ => by subst e1; subst e2; subst e3; exact next)
end
end Cv
namespace Cv
open Go
/-! ## keys that are structs: a number and an array of 32 bytes -/
theorem run_eqArrD {P : Program} {t e : TypeId} {len dp : Nat} {k : IntKind} {xs ys : List Int} (hU : P.underlying t = some (.array len e)) (hE : P.underlying e = some (.int k)) (hz : Sc P e) (hx : xs.length = len) (hy : ys.length = len) (w : World) :
    (Op.equalIn (dp + 2) t (.agg (xs.map (Value.int k)).toArray) (.agg (ys.map (Value.int k)).toArray)).run P w = .ok (decide (xs = ys)) w := by
  have h2 := (hz w).2
  have h1 := (hz w).1
  rw [show dp + 2 = (dp + 1) + 1 from rfl, Op.equalIn]
  simp only [Sem.run_bind, run_underlying hU, Result.andThen, h2]
  simp only [Std.Legacy.Range.forIn_eq_forIn_range', Std.Legacy.Range.size]
  have key : ∀ (m o : Nat), o + m = len → (Sem.run P (forIn (List.range' o m 1) ((none, ()) : Option Bool × Unit) fun i (_ : Option Bool × Unit) => do
          let a ← Go.part e (List.map (Value.int k) xs).toArray (i * 1)
          let b ← Go.part e (List.map (Value.int k) ys).toArray (i * 1)
          let c ← Op.equalIn (dp + 1) e a b
          if (!c) = true then pure (ForInStep.done (some false, ())) else pure (ForInStep.yield (none, ()))) w) = .ok (if xs.drop o = ys.drop o then none else some false, ()) w := by
    intro m
    induction m with
    | zero => intro o h; rw [List.drop_eq_nil_of_le (by omega), List.drop_eq_nil_of_le (by omega)]; simp
    | succ m ih =>
      intro o h
      have ox : o < xs.length := by omega
      have oy : o < ys.length := by omega
      have e1 := List.drop_eq_getElem_cons ox
      have e2 := List.drop_eq_getElem_cons oy
      rw [List.range'_succ, List.forIn_cons]
      simp only [Sem.run_bind, Nat.mul_one]
      have p1 : ∀ (l : List Int) (hl : o < l.length), (Go.part e (List.map (Value.int k) l).toArray o).run P w = .ok (.int k l[o]) w := fun l hl => by
        simp [Go.part, h1, hl]
      rw [p1 xs ox, Result.andThen_ok, p1 ys oy, Result.andThen_ok, run_equalIn_int w dp e k k _ _ hE, Result.andThen_ok]
      by_cases hq : xs[o] = ys[o]
      · have := ih (o + 1) (by omega)
        simp only [Nat.mul_one] at this
        simp only [hq, beq_self_eq_true, Bool.not_true, Bool.false_eq_true, if_false, Sem.run_pure, Result.andThen_ok, this, e1, e2, List.cons.injEq, true_and]
      · have hne : ¬ (xs.drop o = ys.drop o) := by rw [e1, e2]; simp only [List.cons.injEq, not_and]; exact fun h => absurd h hq
        have hb : (xs[o] == ys[o]) = false := by simpa using hq
        simp only [hb, hne, Bool.not_false, if_true, if_false, Sem.run_pure, Result.andThen_ok]
  have := key len 0 (by omega)
  simp only [Nat.mul_one, List.drop_zero] at this
  simp only [Nat.mul_one, Nat.sub_zero, Nat.add_sub_cancel, Nat.div_one, this]
  by_cases h : xs = ys <;> simp [h]
theorem check_arr {P : Program} {t e : TypeId} {dp : Nat} (hU : P.underlying t = some (.array 32 e)) (hE : P.underlying e = some (.int .u8)) (hz : Sc P e) (em : Bool) (k : ID32) (w : World) : (Instr.checkKey em (dp + 2) t (aK k)).run P w = .ok () w := by
  have h2 := (hz w).2
  have h1 := (hz w).1
  rw [show dp + 2 = (dp + 1) + 1 from rfl, Instr.checkKey]
  simp only [Sem.run_bind, run_underlying hU, Result.andThen]
  simp only [Std.Legacy.Range.forIn_eq_forIn_range', Std.Legacy.Range.size]
  have key : ∀ (m o : Nat), o + m = 32 → (Sem.run P (forIn (List.range' o m 1) PUnit.unit fun i (_ : PUnit) => do
        let s ← sizeOf e
        let a ← Go.part e (k.1.map Y).toArray (i * s)
        Instr.checkKey em (dp + 1) e a
        pure (ForInStep.yield PUnit.unit)) w) = .ok PUnit.unit w := by
    intro m
    induction m with
    | zero => intro o h; simp
    | succ m ih =>
      intro o h
      have ho : o < k.1.length := by have := k.2; omega
      rw [List.range'_succ, List.forIn_cons]
      have p1 : (Go.part e (k.1.map Y).toArray o).run P w = .ok (Y k.1[o]) w := by
        simp [Go.part, h1, ho]
      have p2 : (Instr.checkKey em (dp + 1) e (Y k.1[o])).run P w = .ok () w := by
        rw [Instr.checkKey]; simp [run_underlying hE, Y]
      have := ih (o + 1) (by omega)
      simp only [Sem.run_bind, h2, Result.andThen_ok, Nat.mul_one, p1, p2, Sem.run_pure]
      exact this
  have h3 := key 32 0 (by omega)
  simp at h3 ⊢
  rw [h3]
abbrev LK := Int × ID32
@[reducible] def lkK (k : LK) : Value := .agg (.int .i64 k.1 :: k.2.1.map Y).toArray
theorem lkK_inj (a b : LK) (h : lkK a = lkK b) : a = b := by
  unfold lkK at h
  have h2 : (Value.int .i64 a.1 :: a.2.1.map Y) = (.int .i64 b.1 :: b.2.1.map Y) := by injection h with h; injection h
  injection h2 with h3 h4
  injection h3 with h5 h6
  have h7 : aK a.2 = aK b.2 := by unfold aK; rw [h4]
  exact Prod.ext h6 (aK_inj _ _ h7)
theorem keyT_lack {P : Program} {t ti ta e : TypeId} {f0 f1 : Field} (hU : P.underlying t = some (.struct #[f0, f1])) (t0 : f0.type = ti) (o0 : f0.offset = 0) (n0 : (f0.name != "_") = true) (t1 : f1.type = ta) (o1 : f1.offset = 1) (n1 : (f1.name != "_") = true)
    (hI : P.underlying ti = some (.int .i64)) (hzI : Sc P ti) (hA : P.underlying ta = some (.array 32 e)) (hzA : Ag P ta 32) (hE : P.underlying e = some (.int .u8)) (hz : Sc P e) (hst : P.stoodInHeld t = false) : KeyT P t lkK := by
  subst t0; subst t1
  have p0 : ∀ (k : LK) w, (Go.part f0.type (Value.int .i64 k.1 :: k.2.1.map Y).toArray f0.offset).run P w = .ok (.int .i64 k.1) w := fun k w => by
    have h1 := (hzI w).1
    simp [Go.part, h1, o0]
  have p1 : ∀ (k : LK) w, (Go.part f1.type (Value.int .i64 k.1 :: k.2.1.map Y).toArray f1.offset).run P w = .ok (aK k.2) w := fun k w => by
    have h1 := (hzA w).1
    have h2 := (hzA w).2
    have hl : (k.2.1.map Y).length = 32 := by rw [List.length_map]; exact k.2.2
    have he : ((Value.int .i64 k.1 :: k.2.1.map Y).toArray.extract 1 (1 + 32)) = (k.2.1.map Y).toArray := by
      apply Array.ext'
      simp [List.take_of_length_le (show (k.2.1.map Y).length ≤ 32 by omega)]
    simp only [Go.part, Sem.run_bind, h1, Result.andThen_ok, if_true, h2, o1, he, Sem.run_pure]
  refine ⟨fun em k w => ?_, fun venc k es l w h => ?_, fun k => ?_⟩
  · rw [show (10000 : Nat) = 9999 + 1 from rfl, Instr.checkKey]
    have c1 : (Instr.checkKey em 9999 f0.type (.int .i64 k.1)).run P w = .ok () w := by
      rw [show (9999 : Nat) = 9998 + 1 from rfl, Instr.checkKey]; simp [run_underlying hI]
    have c2 := check_arr (dp := 9997) hA hE hz em k.2 w
    have m0 : f0.name ≠ "_" := by simpa using n0
    have m1 : f1.name ≠ "_" := by simpa using n1
    simp only [Sem.run_bind, run_underlying hU, Result.andThen]
    simp [m0, m1, p0, p1, c1, c2]
  · rw [run_findKey_eq w (by rw [hU])]
    have heq : ∀ a b : LK, (Op.equal t (lkK a) (lkK b)).run P w = .ok (decide (a = b)) w := by
      intro a b
      have q0 : ∀ x y : Int, (Op.equalIn 9999 f0.type (.int .i64 x) (.int .i64 y)).run P w = .ok (x == y) w := fun x y => run_equalIn_int w 9998 f0.type .i64 .i64 _ _ hI
      have q1 : ∀ x y : ID32, (Op.equalIn 9999 f1.type (aK x) (aK y)).run P w = .ok (decide (x.1 = y.1)) w := fun x y => by
        have q1 := run_eqArrD (dp := 9997) hA hE hz (xs := x.1.map (fun b => (b.toNat : Int))) (ys := y.1.map (fun b => (b.toNat : Int))) (by simpa using x.2) (by simpa using y.2) w
        rw [← Y_int, ← Y_int] at q1
        rw [show (9999 : Nat) = 9997 + 2 from rfl, aK, aK, q1]
        simp only [toNat_inj]
      have m0 : f0.name ≠ "_" := by simpa using n0
      have m1 : f1.name ≠ "_" := by simpa using n1
      have hp : (program).run P w = .ok P w := rfl
      have e : a = b ↔ a.1 = b.1 ∧ a.2.1 = b.2.1 := ⟨fun h => by rw [h]; exact ⟨rfl, rfl⟩, fun h => Prod.ext h.1 (Subtype.ext h.2)⟩
      have pa0 := p0 a w
      have pb0 := p0 b w
      have pa1 := p1 a w
      have pb1 := p1 b w
      rw [show Op.equal t = Op.equalIn (9999 + 1) t from rfl, Op.equalIn]
      simp only [Sem.run_bind, run_underlying hU, Result.andThen_ok, hp, hst, Bool.false_eq_true, if_false, lkK]
      simp only [Sem.run_bind, List.forIn_toArray, List.forIn_cons, List.forIn_nil, m0, m1, ne_eq, not_false_eq_true, if_true, pa0, pb0, pa1, pb1, q0, q1, Result.andThen_ok]
      by_cases h1 : a.1 = b.1
      · have e1 : (a.1 == b.1) = true := by simpa using h1
        by_cases h2 : a.2.1 = b.2.1
        · have q2 := q1 a.2 b.2
          rw [decide_eq_true h2] at q2
          rw [e1, decide_eq_true (e.2 ⟨h1, h2⟩)]
          simp [pa1, pb1, q2]
        · have q2 := q1 a.2 b.2
          rw [decide_eq_false h2] at q2
          rw [e1, decide_eq_false (fun q => h2 (e.1 q).2)]
          simp [pa1, pb1, q2]
      · have e1 : (a.1 == b.1) = false := by simpa using h1
        rw [e1, decide_eq_false (fun q => h1 (e.1 q).1)]; simp
    have key : ∀ (es : List MapEntry) (l : List (LK × _)) (i : Nat), es.map (fun e => (e.key, e.val)) = l.map (fun p => (lkK p.1, venc p.2)) →
        (Instr.findAsking t (lkK k) es i).run P w = .ok ((lookI l k i).map fun p => (p.1, venc p.2)) w := by
      intro es
      induction es with
      | nil => intro l i h; cases l with
        | nil => simp [Instr.findAsking, lookI]
        | cons p l => simp at h
      | cons e0 es ih => intro l i h; cases l with
        | nil => simp at h
        | cons p l =>
          obtain ⟨k', v⟩ := p
          simp only [List.map_cons, List.cons.injEq, Prod.mk.injEq] at h
          obtain ⟨⟨h1, h2⟩, h3⟩ := h
          simp only [Instr.findAsking, Sem.run_bind, h1, heq, Result.andThen_ok, lookI]
          by_cases e1 : k' = k
          · subst e1; simp [h2]
          · simp only [decide_eq_false (fun e => e1 (Eq.symm e)), Bool.false_eq_true, if_false, if_neg e1]
            exact ih l (i + 1) h3
    exact key es l 0 h
  · rw [show (10000 : Nat) = 9999 + 1 from rfl]
    simp only [lkK, Instr.sameBits, beq_self_eq_true, Bool.true_and, List.all_eq_true]
    intro p hp
    have : ∀ (l : List Value), (∀ v ∈ l, Instr.sameBits 9999 v v = true) → ∀ p ∈ l.zip l, Instr.sameBits 9999 p.1 p.2 = true := by
      intro l
      induction l with
      | nil => intro _ p hp; simp at hp
      | cons v l ih =>
        intro h p hp
        simp only [List.zip_cons_cons, List.mem_cons] at hp
        rcases hp with rfl | hp
        · exact h v (by simp)
        · exact ih (fun u hu => h u (by simp [hu])) p hp
    refine this (.int .i64 k.1 :: k.2.1.map Y) (fun v hv => ?_) p hp
    rcases List.mem_cons.1 hv with rfl | hv
    · rw [show (9999 : Nat) = 9998 + 1 from rfl]; simp [Instr.sameBits]
    · obtain ⟨b, _, rfl⟩ := List.mem_map.1 hv
      exact sameBits_Y _ b
end Cv
namespace Cv
open Go
/-! ## functions without a text: comparing bytes -/
abbrev cmpB (a b : List UInt8) : Int := Go.Lib.compareBytes a b
theorem cmpB_self : ∀ (a : List UInt8), cmpB a a = 0
  | [] => rfl
  | x :: a => by
    have h : ¬ x < x := UInt8.lt_irrefl x
    simp only [cmpB, Go.Lib.compareBytes, h, if_false]; exact cmpB_self a
theorem u8_tri {x y : UInt8} (h1 : ¬ x < y) (h2 : ¬ y < x) : x = y := by
  apply UInt8.toNat_inj.1
  rw [UInt8.lt_iff_toNat_lt] at h1 h2
  omega
theorem cmpB_eq : ∀ {a b : List UInt8}, cmpB a b = 0 → a = b
  | [], [], _ => rfl
  | [], _ :: _, h => by simp [cmpB, Go.Lib.compareBytes] at h
  | _ :: _, [], h => by simp [cmpB, Go.Lib.compareBytes] at h
  | x :: a, y :: b, h => by
    simp only [cmpB, Go.Lib.compareBytes] at h
    by_cases h1 : x < y
    · rw [if_pos h1] at h; cases h
    · by_cases h2 : y < x
      · rw [if_neg h1, if_pos h2] at h; cases h
      · rw [if_neg h1, if_neg h2] at h
        rw [u8_tri h1 h2, cmpB_eq h]
theorem cmpB_neg : ∀ (a b : List UInt8), cmpB b a = -cmpB a b
  | [], [] => rfl
  | [], _ :: _ => rfl
  | _ :: _, [] => rfl
  | x :: a, y :: b => by
    simp only [cmpB, Go.Lib.compareBytes]
    by_cases h1 : x < y
    · have h2 : ¬ y < x := by rw [UInt8.lt_iff_toNat_lt] at h1 ⊢; omega
      rw [if_pos h1, if_neg h2, if_pos h1]; rfl
    · by_cases h2 : y < x
      · rw [if_pos h2, if_neg h1, if_pos h2]
      · rw [if_neg h1, if_neg h2, if_neg h2, if_neg h1]; exact cmpB_neg a b
theorem cmpB_vals : ∀ (a b : List UInt8), cmpB a b = -1 ∨ cmpB a b = 0 ∨ cmpB a b = 1
  | [], [] => .inr (.inl rfl)
  | [], _ :: _ => .inl rfl
  | _ :: _, [] => .inr (.inr rfl)
  | x :: a, y :: b => by
    simp only [cmpB, Go.Lib.compareBytes]
    by_cases h1 : x < y
    · rw [if_pos h1]; exact .inl rfl
    · by_cases h2 : y < x
      · rw [if_neg h1, if_pos h2]; exact .inr (.inr rfl)
      · rw [if_neg h1, if_neg h2]; exact cmpB_vals a b
theorem cmpB_trans : ∀ {a b c : List UInt8}, cmpB a b < 0 → cmpB b c < 0 → cmpB a c < 0
  | [], b, [], h, k => by
    cases b with
    | nil => exact h
    | cons y b => simp [cmpB, Go.Lib.compareBytes] at k
  | [], _, _ :: _, _, _ => by simp [cmpB, Go.Lib.compareBytes]
  | _ :: _, [], _, h, _ => by simp [cmpB, Go.Lib.compareBytes] at h
  | _ :: _, _ :: _, [], _, k => by simp [cmpB, Go.Lib.compareBytes] at k
  | x :: a, y :: b, z :: c, h, k => by
    simp only [cmpB, Go.Lib.compareBytes] at h k ⊢
    simp only [UInt8.lt_iff_toNat_lt] at h k ⊢
    by_cases h1 : x.toNat < y.toNat
    · by_cases k1 : y.toNat < z.toNat
      · rw [if_pos (by omega)]; decide
      · by_cases k2 : z.toNat < y.toNat
        · rw [if_neg k1, if_pos k2] at k; exact absurd k (by decide)
        · rw [if_pos (by omega)]; decide
    · by_cases h2 : y.toNat < x.toNat
      · rw [if_neg h1, if_pos h2] at h; exact absurd h (by decide)
      · rw [if_neg h1, if_neg h2] at h
        by_cases k1 : y.toNat < z.toNat
        · rw [if_pos (by omega)]; decide
        · by_cases k2 : z.toNat < y.toNat
          · rw [if_neg k1, if_pos k2] at k; exact absurd k (by decide)
          · rw [if_neg k1, if_neg k2] at k
            rw [if_neg (by omega), if_neg (by omega)]
            exact cmpB_trans h k
/-- less, as the strings' '<' has it -/
theorem cmpB_lt : ∀ {a b : List UInt8}, cmpB a b < 0 ↔ a < b
  | [], [] => by simp [cmpB, Go.Lib.compareBytes]
  | [], _ :: _ => by simp [cmpB, Go.Lib.compareBytes]
  | _ :: _, [] => by simp [cmpB, Go.Lib.compareBytes]
  | x :: a, y :: b => by
    rw [List.cons_lt_cons_iff, ← cmpB_lt (a := a) (b := b)]
    simp only [cmpB, Go.Lib.compareBytes]
    by_cases h1 : x < y
    · rw [if_pos h1]; simp [h1]
    · by_cases h2 : y < x
      · have hne : x ≠ y := by rintro rfl; exact h1 h2
        rw [if_neg h1, if_pos h2]; simp [h1, hne]
      · rw [if_neg h1, if_neg h2]
        have := u8_tri h1 h2
        subst this
        simp [h1]
section
variable {P : Program} {σ : World} {n : Nat} {Q : Post} {K : Env} {D M : List Asn} {m : Option (List Asn × List Asn)} {ops : Array Oper} {rest : List Oper} {d : Nat} {ty : TypeId} {pos : String} {aft : Array Edge}
/-- a function without a text -/
def IsX (P : Program) (f : FuncId) (e : Array Value → Sem Value) : Prop := ∀ args w, (callFunc f args).run P w = ((e args).run P w).andThen fun v w' => .ok (.value v) w'
theorem IsX.of {P : Program} {f : FuncId} {fn : Func} {e : Array Value → Sem Value} (hf : P.funcs[f]? = some fn) (hname : (fn.name == "runtime.NumGoroutine") = false) (hb : fn.body.isNone = true) (hn : Extern.findNext fn = none) (he : Extern.find fn = some e) : IsX P f e :=
  fun args w => run_callFunc_extern hf hname hb hn he args w
theorem L.callX {f : FuncId} {e : Array Value → Sem Value} {xs : List Operand} {ats : Array TypeId} {args : List Value} {v : Value} (hX : IsX P f e) (hd : Nat.blt d n = true) (hx : evs K xs args) (hr : ∀ w, Sat σ D M w → (e args.toArray).run P w = .ok v w)
    (next : TL m P σ n ops Q rest ((d, v) :: K) D M) : TL m P σ n ops Q (⟨some d, .call { callee := .value (.func f), args := xs.toArray, argTypes := ats }, ty, pos, aft, none⟩ :: rest) K D M :=
  L.quiet hd (fun a w s ss => by
    have h1 := hX args.toArray w
    have h2 : xs.map a.eval = args := s.evals hx
    rw [hr w ss] at h1
    simp only [execOp, resolve, Deferred.ofValue, Act.eval, bind, pure, Sem.bind, invoke, List.map_toArray, h2, Array.empty_append, Array.append_empty]
    exact h1) next
theorem run_loadB {w : World} : ∀ (l : List UInt8) (a : Addr) (acc : ByteArray), (∀ j x, l[j]? = some x → w.cell? (a.add j) = some (Y x)) →
    (Extern.Bytes.loadBytes a l.length acc).run P w = .ok ⟨acc.data ++ l.toArray⟩ w
  | [], a, acc, _ => by simp [Extern.Bytes.loadBytes]
  | x :: l, a, acc, h => by
    have h0 : w.cell? a = some (.int .u8 x.toNat) := by
      have := h 0 x rfl
      simpa [Addr.add, Y] using this
    have ih := run_loadB l (a.add 1) (acc.push x) (fun j y hy => by
      have := h (j + 1) y (by simpa using hy)
      have e : (a.add 1).add j = a.add (j + 1) := by
        unfold Addr.add
        by_cases hj : j = 0
        · subst hj; simp
        · simp [hj]; omega
      rw [e]; exact this)
    simp only [List.length_cons, Extern.Bytes.loadBytes, Sem.run_bind, run_load, h0, Result.andThen]
    have e2 : ((x.toNat : Int).toNat).toUInt8 = x := by simp
    rw [e2, ih]
    congr 1
    apply ByteArray.ext
    simp [ByteArray.push]
theorem run_bytesOf {w : World} {a : Option Addr} {len cap : Nat} {l : List UInt8} (ss : Sat σ D M w) (hm : rsl 1 a len cap (l.map yr) ∈ D) : (Extern.Bytes.bytesOf (.slice a len cap)).run P w = .ok ⟨l.toArray⟩ w := by
  obtain ⟨y', l', q1, q2, q3, q4⟩ := ss.fact hm
  rw [List.length_map] at q1
  cases a with
  | none =>
    have : l = [] := by
      rcases q4 with e | ⟨b, o, c, t, m, e, _⟩
      · simpa using e
      · cases e
    subst this
    rfl
  | some p =>
    have := run_loadB (P := P) (w := w) l p .empty (fun j x e => by
      rcases q4 with e' | ⟨b, o, c, t, m, e1, e2, e3⟩
      · have : l = [] := by simpa using e'
        subst this; simp at e
      · injection e1 with e1; subst e1
        rw [add_lit, cell_of (l' _ _ e2)]
        have := e3 j 0 (yr x) (Y x) (by rw [List.getElem?_map, e]; rfl) rfl
        simpa using this)
    rw [q1] at this
    show (Extern.Bytes.loadBytes p len .empty).run P w = _
    rw [this]; simp
theorem L.cmpSl {f : FuncId} {x y : Operand} {ats : Array TypeId} {a b : Option Addr} {la ca lb cb : Nat} {p q : List UInt8} (hX : IsX P f Extern.BytealgCompare.compare) (hd : Nat.blt d n = true) (hx : evs K [x, y] [.slice a la ca, .slice b lb cb]) (h1 : rsl 1 a la ca (p.map yr) ∈ D) (h2 : rsl 1 b lb cb (q.map yr) ∈ D)
    (next : TL m P σ n ops Q rest ((d, .int .i64 (cmpB p q)) :: K) D M) : TL m P σ n ops Q (⟨some d, .call { callee := .value (.func f), args := [x, y].toArray, argTypes := ats }, ty, pos, aft, none⟩ :: rest) K D M :=
  L.callX hX hd hx (fun w ss => by
    show (do Pure.pure (goInt (Extern.BytealgCompare.cmp (← Extern.Bytes.bytesOf (.slice a la ca)) (← Extern.Bytes.bytesOf (.slice b lb cb)))) : Sem Value).run P w = _
    simp only [Sem.run_bind, Sem.run_pure, run_bytesOf ss h1, run_bytesOf ss h2, Result.andThen]
    rw [Go.Lib.cmp_eq]
    rfl) next
theorem L.cmpStr {f : FuncId} {x y : Operand} {ats : Array TypeId} {p q : List UInt8} (hX : IsX P f Extern.BytealgCompare.compare) (hd : Nat.blt d n = true) (hx : evs K [x, y] [S p, S q])
    (next : TL m P σ n ops Q rest ((d, .int .i64 (cmpB p q)) :: K) D M) : TL m P σ n ops Q (⟨some d, .call { callee := .value (.func f), args := [x, y].toArray, argTypes := ats }, ty, pos, aft, none⟩ :: rest) K D M :=
  L.callX hX hd hx (fun w ss => Go.Lib.run_compareString (P := P) ⟨p.toArray⟩ ⟨q.toArray⟩ w) next
/-- copy of a string's bytes into an own block -/
theorem L.copyStr {td ts e tb : TypeId} {x y : Operand} {b o dl dc k : Nat} {cs cs' : List Value} {l : List UInt8} {M' : List Asn} (hd : Nat.blt d n = true) (hU : P.underlying td = some (.slice e)) (hz : Sz P e 1) (hx : ev K x = some (.slice (some ⟨b, o, none⟩) dl dc)) (hy : ev K y = some (S l))
    (hk : Nat.min l.length dl = k) (hu : Upd (cl b tb cs) (cl b tb cs') M M') (hs : SetAt cs o ((l.take k).map Y) cs')
    (next : TL none P σ n ops Q rest ((d, .int .i64 k) :: K) D M') : TL none P σ n ops Q (⟨some d, .call { callee := .builtin .copy, args := #[x, y], argTypes := #[td, ts] }, ty, pos, aft, none⟩ :: rest) K D M :=
  L.val hd (fun aa w s ss => by
    obtain ⟨O, e1, e2⟩ := hu
    have hb := (ss.ent e1).block (.head _)
    have e3 := hz w
    have h2 := run_storeCells_at P b o tb ((l.take k).map Y) 0 cs.toArray w hb (by simpa using hs.1) (fun u hu => by obtain ⟨z, _, rfl⟩ := List.mem_map.1 hu; rfl)
    simp only [Nat.add_zero] at h2
    refine ⟨_, ?_, ss.setB (o' := .cells cs'.toArray tb (0, 0)) ⟨O, e1, e2⟩⟩
    have ex : aa.eval x = _ := s.eval hx
    have ey : aa.eval y = _ := s.eval hy
    have h3 : Sem.run P (storeCells ⟨b, o, none⟩ ((l.take k).map Y)) w = .ok () (setB w b (.cells cs'.toArray tb (0, 0))) := by
      rw [show (storeCells ⟨b, o, none⟩ ((l.take k).map Y)) = storeCells ⟨b, o, none⟩ ((l.take k).map Y) 0 from rfl, h2, setRow_setB hb, hs.2]
    have h4 : (Builtin.firstCells 1 k (S l)).run P w = .ok ((l.take k).map Y).toArray w := by
      show Sem.run P (Pure.pure _) w = _
      rw [Sem.run_pure]
      congr 1
      apply Array.toList_inj.1
      simp only [ByteArray.data_extract, List.map_take, Array.toList_map, Array.toList_extract]
      simp [Y, Function.comp_def, ← List.map_take]
    have h5 : (Builtin.lenOf (S l)).run P w = .ok l.length w := by
      show Sem.run P (Pure.pure _) w = _
      rw [Sem.run_pure]; rfl
    simp [execOp, resolve, invoke, builtin, ex, ey, Builtin.copy_, run_underlying hU, h5, hk, e3, h4, h3, goInt, -List.map_take]) next
end
end Cv
namespace Cv
open Go
theorem bless_iff : ∀ {a b : List UInt8}, bless a b = true ↔ cmpB a b < 0
  | [], [] => by simp [bless, Op.bytesLess, cmpB, Go.Lib.compareBytes]
  | [], _ :: _ => by simp [bless, Op.bytesLess, cmpB, Go.Lib.compareBytes]
  | _ :: _, [] => by simp [bless, Op.bytesLess, cmpB, Go.Lib.compareBytes]
  | x :: a, y :: b => by
    have ih := bless_iff (a := a) (b := b)
    unfold bless at ih ⊢
    unfold Op.bytesLess
    simp only [cmpB, Go.Lib.compareBytes]
    by_cases h1 : x < y
    · simp [h1]
    · by_cases h2 : y < x
      · have hne : x ≠ y := by rintro rfl; exact h1 h2
        simp [h1, h2, hne]
      · have := u8_tri h1 h2
        subst this
        simp [h1, ih, cmpB]
end Cv
namespace Cv
open Go
theorem T.retTA {P : Program} {σ : World} {n : Nat} {K : Env} {D M : List Asn} {fn : Func} {t u k : Nat} {tt : TypeId} {b off : Nat} {R : Value → List Asn → List Asn → Prop} {D0 M0 D' M' : List Asn} {vs : List Value} {v : Value} (hr : fn.results = #[.tmp u, .cell t tt]) (hS : Ag P tt k) (hx : get K t = some (.pointer (some ⟨b, off, none⟩))) (hc : CellsN (dset σ []) D M b off k vs) (hv : get K u = some v)
    (hR : R (.tuple #[v, .agg vs.toArray]) D' M') (hD : SubD (D' ++ D0) D) (hM : Ent M (M' ++ M0)) : T (dset σ []) n (bPost P fn (RetPost (dset σ []) R D0 M0) .ret) K D M :=
  T.ret0 (.inl rfl) (fun a w s ss => by
    obtain ⟨hl, hc⟩ := hc
    obtain ⟨c, t', m, hb, hv'⟩ := hc w ss
    have h1 : (loadCells ⟨b, off, none⟩ vs.length).run P w = .ok vs.toArray w := run_loadCells_list (P := P) w _ vs (fun j v e => by rw [add_lit, cell_of hb]; exact hv' j v e)
    have h2 := (hS w).1
    have h4 := (hS w).2
    have h3 := s.val t _ hx
    have h5 := s.val u _ hv
    rw [Array.getD_eq_getD_getElem?] at h3 h5
    subst hl
    simp [results, hr, h3, h5, asAddr, loadVar, h2, h4, h1, Sem.run]) hR hD hM
end Cv
namespace Cv
open Go
section
variable {κ ν : Type} [DecidableEq κ] {kenc : κ → Value} {venc : ν → Value}
theorem restK_keys (l : List (κ × ν)) (bs : List Nat) (seen : Array Nat) : restK l bs seen = (((l.map Prod.fst).zip bs).filter (fun p => !seen.contains p.2)).map (·.1) := by
  unfold restK
  induction l generalizing bs with
  | nil => simp
  | cons p l ih =>
    cases bs with
    | nil => simp
    | cons b bs =>
      simp only [List.map_cons, List.zip_cons_cons, List.filter_cons]
      split
      · rw [List.map_cons, List.map_cons, ih bs]
      · exact ih bs
theorem look_keys {l : List (κ × ν)} {k : κ} {u : ν} (h : look l k = some u) (v : ν) : (put l k v).map Prod.fst = l.map Prod.fst := by
  rw [keys_put, if_pos]
  exact List.mem_map.2 ⟨_, mem_of_look h, rfl⟩
variable {P : Program} {σ : World} {n : Nat} {Q : Post} {K : Env} {D M N : List Asn} {ops : Array Oper} {rest' : List Oper} {ty : TypeId} {pos : String} {aft : Array Edge}
/-- an entry that is there gets another value, while one goes through the map -/
theorem L.mapUpdateI {t kt et : TypeId} {x y u : Operand} {b it : Nat} {k : κ} {l : List (κ × ν)} {v u0 : ν} {uv : Value} {rest : List κ} {cur : Option κ} (hU : P.underlying t = some (.map kt et)) (hK : KeyT P kt kenc)
    (hx : ev K x = some (.map (some b))) (hy : ev K y = some (kenc k)) (hu : ev K u = some uv) (hv : uv = venc v) (hl : look l k = some u0) (hm : Pull (mpi b it kenc venc l rest cur) M N)
    (next : TL none P σ n ops Q rest' K D (mpi b it kenc venc (put l k v) rest none :: N)) : TL none P σ n ops Q (⟨none, .mapUpdate t x y u, ty, pos, aft, none⟩ :: rest') K D M :=
  L.eff (fun a w s ss => by
    obtain ⟨q, hs⟩ := mpi_open (ss.ent hm)
    have hb : w.heap[b]? = some (.map q.es q.clock) := hs.block (.tail _ (.head _))
    have h2 := q.val
    have hg : (getObj b).run P w = .ok (.map q.es q.clock) w := by simp [getObj, Sem.run, hb]
    have c1 := hK.check false k w
    have c2 := hK.find venc k q.es.toList l w h2
    have so := fun o' => setB_setObj (P := P) (o' := o') hb (by intros; exact fun h => by cases h)
    obtain ⟨j, h6, h7, h8, _⟩ := lookI_some (i := 0) hl
    rw [h6] at c2
    have hlen : q.es.toList.length = l.length := by simpa using congrArg List.length h2
    have hj : j < l.length := (List.getElem?_eq_some_iff.1 h7).1
    have hje : j < q.es.size := by rw [← hlen] at hj; simpa using hj
    have hkey : (q.es[j]'hje).key = kenc k := by
      have := congrArg (fun q : List (Value × Value) => q[j]?) h2
      simp only [List.getElem?_map, h7] at this
      rw [show q.es.toList[j]? = some (q.es[j]'hje) from by simp [hje]] at this
      simp at this
      exact this.1
    have hborn : (q.es.modify j fun e => { e with key := kenc k, val := venc v }).toList.map (·.born) = q.es.toList.map (·.born) := by
      apply List.ext_getElem?
      intro i
      simp only [List.getElem?_map, Array.getElem?_toList, Array.getElem?_modify]
      by_cases e : j = i
      · subst e; simp [hje]
      · simp [e]
    have hr : (Instr.mapUpdate t (.map (some b)) (kenc k) uv).run P w = .ok () (setB w b (.map (q.es.modify j fun e => { e with key := kenc k, val := venc v }) q.clock)) := by
      subst hv
      simp [Instr.mapUpdate, run_underlying hU, hg, c1, c2, so, hje, hkey, Instr.keyThatStays, hK.same]
    refine ⟨_, ?_, mpi_shut (l := put l k v) (rest := rest) (cur := none) ⟨q.es.modify j fun e => { e with key := kenc k, val := venc v }, q.clock, q.since, q.seen, q.last, ?_, nodup_put q.keys, by rw [hborn]; exact q.borns, ?_, q.sc, q.sl, ?_, (fun h => by cases h), (fun k h => by cases h)⟩ (hs.setB (Upd.there Upd.here))⟩
    · have ex : a.eval x = _ := s.eval hx
      have ey : a.eval y = _ := s.eval hy
      have eu : a.eval u = _ := s.eval hu
      simp only [execOp, ex, ey, eu]
      simp [hr]
    · rw [h8]
      apply List.ext_getElem?
      intro i
      have := congrArg (fun q : List (Value × Value) => q[i]?) h2
      simp only [List.getElem?_map] at this
      simp only [List.getElem?_map, Array.getElem?_toList, Array.getElem?_modify, List.getElem?_set]
      by_cases e : j = i
      · subst e
        simp [hje, hj]
      · simpa [e] using this
    · intro e he
      have : e.born ∈ q.es.toList.map (·.born) := by rw [← hborn]; exact List.mem_map_of_mem he
      obtain ⟨e', he', hbe⟩ := List.mem_map.1 this
      rw [← hbe]; exact q.old e' he'
    · rw [restK_keys, look_keys hl, hborn, ← restK_keys]; exact q.rest) next
end
end Cv
namespace Cv
open Go
section
variable {κ ν : Type} [DecidableEq κ] {kenc : κ → Value} {venc : ν → Value} {P : Program} {σ : World} {n : Nat} {Q : Post} {K : Env} {D M : List Asn} {m : Option (List Asn × List Asn)} {ops : Array Oper} {rest : List Oper} {d : Nat} {ty : TypeId} {pos : String} {aft : Array Edge}
/-- a look that tells whether it is there -/
theorem L.lookup2 {t kt et : TypeId} {x y : Operand} {b : Nat} {k : κ} {l : List (κ × ν)} {z : Value} (hd : Nat.blt d n = true) (hU : P.underlying t = some (.map kt et)) (hK : KeyT P kt kenc) (hz : ∀ w, (zeroValue et).run P w = .ok z w)
    (hx : ev K x = some (.map (some b))) (hy : ev K y = some (kenc k)) (hm : mp b kenc venc l ∈ M)
    (next : TL m P σ n ops Q rest ((d, .tuple #[((look l k).map venc).getD z, .bool (look l k).isSome]) :: K) D M) : TL m P σ n ops Q (⟨some d, .lookup t x y true, ty, pos, aft, none⟩ :: rest) K D M := by
  cases hl : look l k with
  | none => rw [hl] at next; exact L.lookupN hd hU hK hz hx hy hm hl next
  | some v => rw [hl] at next; exact L.lookupS hd hU hK hz hx hy hm hl next
end
end Cv
namespace Cv
open Go
/-! ## m[k] op= v, where the entry is made first (mapEntry, entryStore) -/
section
variable {P : Program} {σ : World} {n : Nat} {Q : Post} {K : Env} {D M N : List Asn} {m : Option (List Asn × List Asn)} {ops : Array Oper} {rest : List Oper} {d : Nat} {ty : TypeId} {pos : String} {aft : Array Edge}
variable {κ ν : Type} [DecidableEq κ] {kenc : κ → Value} {venc : ν → Value}
/-- a map, the entry of a key of the stamp st is there -/
def mpS {κ ν : Type} (b : Nat) (kenc : κ → Value) (venc : ν → Value) (l : List (κ × ν)) (k : κ) (st : Nat) : Asn := fun h =>
  ∃ (es : Array MapEntry) (clock j : Nat), h b = some (.map es clock) ∧ es.toList.map (fun e => (e.key, e.val)) = l.map (fun p => (kenc p.1, venc p.2)) ∧ (l.map Prod.fst).Nodup ∧ (es.toList.map (·.born)).Nodup ∧ (∀ e ∈ es.toList, e.born < clock) ∧ (l[j]?).map Prod.fst = some k ∧ (es.toList[j]?).map (fun e : MapEntry => e.born) = some st
omit [DecidableEq κ] in
theorem mpS_mp {b : Nat} {l : List (κ × ν)} {k : κ} {st : Nat} {h : Hp} (H : mpS b kenc venc l k st h) : mp b kenc venc l h := by
  obtain ⟨es, clock, j, h1, h2, h3, h4, h5, _⟩ := H
  exact ⟨es, clock, h1, h2, h3, h4, h5⟩
theorem put_at {l : List (κ × ν)} {k : κ} {j : Nat} (hn : (l.map Prod.fst).Nodup) (hj : (l[j]?).map Prod.fst = some k) (v : ν) : put l k v = l.set j (k, v) := by
  obtain ⟨p, hp, hk⟩ := Option.map_eq_some_iff.1 hj
  have hl : look l k = some p.2 := look_of_mem hn (by subst hk; exact List.mem_of_getElem? hp)
  obtain ⟨i, _, h7, h8, _⟩ := lookI_some (i := 0) hl
  rw [h8]
  have hjl := (List.getElem?_eq_some_iff.1 hp).1
  have hil := (List.getElem?_eq_some_iff.1 h7).1
  have e1 := (List.getElem?_eq_some_iff.1 hp).2
  have e2 := (List.getElem?_eq_some_iff.1 h7).2
  have : i = j := by
    rcases Nat.lt_trichotomy i j with q | q | q
    · exact absurd (by rw [List.getElem_map, List.getElem_map, e1, e2, ← hk]) (List.pairwise_iff_getElem.1 hn i j (by simpa using hil) (by simpa using hjl) q)
    · exact q
    · exact absurd (by rw [List.getElem_map, List.getElem_map, e1, e2, ← hk]) (List.pairwise_iff_getElem.1 hn j i (by simpa using hjl) (by simpa using hil) q)
  rw [this]
theorem mp_entry {t kt et : TypeId} {b : Nat} {k : κ} {l : List (κ × ν)} {w : World} {z0 : ν} (hU : P.underlying t = some (.map kt et)) (hK : KeyT P kt kenc) (hz : ∀ w, (zeroValue et).run P w = .ok (venc z0) w) (hm : Pull (mp b kenc venc l) M N) (ss : Sat σ D M w) :
    ∃ (st : Nat) (w' : World), (Instr.mapEntry t (.map (some b)) (kenc k)).run P w = .ok (.tuple #[venc ((look l k).getD z0), .int .i64 (st : Int)]) w' ∧ Sat σ D (mpS b kenc venc (put l k ((look l k).getD z0)) k st :: N) w' := by
  have s1 := ss.ent hm
  obtain ⟨es, s2⟩ := s1.ex (A := fun es h => ∃ clock, h b = some (.map es clock) ∧ es.toList.map (fun e => (e.key, e.val)) = l.map (fun p => (kenc p.1, venc p.2)) ∧ (l.map Prod.fst).Nodup ∧ (es.toList.map (·.born)).Nodup ∧ ∀ e ∈ es.toList, e.born < clock)
  obtain ⟨clock, s3⟩ := s2.ex
  obtain ⟨y, ly, h1, h2, h3, h4, h5⟩ := s3.own (.head _)
  have hb : w.heap[b]? = some (.map es clock) := ly _ _ h1
  have s4 : Sat σ D (pt b (.map es clock) :: N) w := s3.ent (Ent.imp fun h hh => hh.1)
  have hg : (getObj b).run P w = .ok (.map es clock) w := by simp [getObj, Sem.run, hb]
  have c1 := hK.check false k w
  have c2 := hK.find venc k es.toList l w h2
  have so := fun o' => setB_setObj (P := P) (o' := o') hb (by intros; exact fun h => by cases h)
  have hlen : es.toList.length = l.length := by simpa using congrArg List.length h2
  cases hl : look l k with
  | none =>
    rw [lookI_none hl] at c2
    refine ⟨clock, setB w b (.map (es.push { key := kenc k, val := venc z0, born := clock }) (clock + 1)), by simp [Instr.mapEntry, run_underlying hU, hg, c1, c2, so, hz, goInt], (s4.setB Upd.here).ent (Ent.imp fun h hh => ⟨_, _, l.length, hh, ?_, nodup_put h3, ?_, ?_, ?_, ?_⟩)⟩
    · rw [Option.getD_none, put_none hl]; simp [h2]
    · simp only [Array.toList_push, List.map_append, List.map_cons, List.map_nil]
      refine List.nodup_append.2 ⟨h4, by simp, fun a ha c hc => ?_⟩
      obtain ⟨e, he, rfl⟩ := List.mem_map.1 ha
      simp at hc; subst hc
      have := h5 e he; omega
    · intro e he
      simp only [Array.toList_push, List.mem_append, List.mem_cons, List.not_mem_nil, or_false] at he
      rcases he with he | rfl
      · have := h5 e he; omega
      · show clock < clock + 1; omega
    · rw [Option.getD_none, put_none hl]; simp
    · rw [Array.toList_push, ← hlen]; simp
  | some u =>
    obtain ⟨j, h6, h7, h8, _⟩ := lookI_some (i := 0) hl
    rw [h6] at c2
    have hj : j < l.length := (List.getElem?_eq_some_iff.1 h7).1
    have hje : j < es.size := by rw [← hlen] at hj; simpa using hj
    have hkey : (es[j]'hje).key = kenc k := by
      have := congrArg (fun q : List (Value × Value) => q[j]?) h2
      simp only [List.getElem?_map, h7] at this
      rw [show es.toList[j]? = some (es[j]'hje) from by simp [hje]] at this
      simp at this
      exact this.1
    have hbm : (es.modify j fun e => { e with key := kenc k }).toList.map (·.born) = es.toList.map (·.born) := by
      apply List.ext_getElem?
      intro i
      simp only [List.getElem?_map, Array.getElem?_toList, Array.getElem?_modify]
      by_cases e : j = i
      · subst e; simp [hje]
      · simp [e]
    refine ⟨(es[j]'hje).born, setB w b (.map (es.modify j fun e => { e with key := kenc k }) clock), by simp [Instr.mapEntry, run_underlying hU, hg, c1, c2, so, hje, hkey, Instr.keyThatStays, hK.same, goInt], (s4.setB Upd.here).ent (Ent.imp fun h hh => ⟨_, _, j, hh, ?_, nodup_put h3, ?_, ?_, ?_, ?_⟩)⟩
    · rw [Option.getD_some, h8]
      apply List.ext_getElem?
      intro i
      have := congrArg (fun q : List (Value × Value) => q[i]?) h2
      simp only [List.getElem?_map] at this
      simp only [List.getElem?_map, Array.getElem?_toList, Array.getElem?_modify, List.getElem?_set]
      by_cases e : j = i
      · subst e
        have hv : (es[j]'hje).val = venc u := by
          have := congrArg (fun q : List (Value × Value) => q[j]?) h2
          simp only [List.getElem?_map, h7] at this
          rw [show es.toList[j]? = some (es[j]'hje) from by simp [hje]] at this
          simp at this
          exact this.2
        simp [hje, hj, hv]
      · simpa [e] using this
    · rw [hbm]; exact h4
    · intro e he
      obtain ⟨i, hi, rfl⟩ := List.getElem_of_mem he
      have hi' : i < es.size := by simpa using hi
      simp only [Array.getElem_toList, Array.getElem_modify]
      have := h5 (es[i]'hi') (by simp)
      split <;> simpa using this
    · rw [Option.getD_some, h8]; simp [hj]
    · have := congrArg (fun q : List Nat => q[j]?) hbm
      simp only [List.getElem?_map] at this
      rw [this]; simp [hje]
theorem mp_store {t : TypeId} {b st : Nat} {k : κ} {l : List (κ × ν)} {w : World} {v : ν} (hm : Pull (mpS b kenc venc l k st) M N) (ss : Sat σ D M w) :
    ∃ w', (Instr.entryStore t (.map (some b)) (.int .i64 (st : Int)) (venc v)).run P w = .ok () w' ∧ Sat σ D (mp b kenc venc (put l k v) :: N) w' := by
  have s1 := ss.ent hm
  obtain ⟨es, s2⟩ := s1.ex (A := fun (es : Array MapEntry) h => ∃ (clock j : Nat), h b = some (.map es clock) ∧ es.toList.map (fun e => (e.key, e.val)) = l.map (fun p => (kenc p.1, venc p.2)) ∧ (l.map Prod.fst).Nodup ∧ (es.toList.map (·.born)).Nodup ∧ (∀ e ∈ es.toList, e.born < clock) ∧ (l[j]?).map Prod.fst = some k ∧ (es.toList[j]?).map (fun e : MapEntry => e.born) = some st)
  obtain ⟨clock, s3⟩ := s2.ex
  obtain ⟨j, s3⟩ := s3.ex
  obtain ⟨y, ly, h1, h2, h3, h4, h5, h6, h7⟩ := s3.own (.head _)
  have hb : w.heap[b]? = some (.map es clock) := ly _ _ h1
  have s4 : Sat σ D (pt b (.map es clock) :: N) w := s3.ent (Ent.imp fun h hh => hh.1)
  have hg : (getObj b).run P w = .ok (.map es clock) w := by simp [getObj, Sem.run, hb]
  have so := fun o' => setB_setObj (P := P) (o' := o') hb (by intros; exact fun h => by cases h)
  have hlen : es.toList.length = l.length := by simpa using congrArg List.length h2
  obtain ⟨e0, he0, hst⟩ := Option.map_eq_some_iff.1 h7
  have hje : j < es.size := by simpa using (List.getElem?_eq_some_iff.1 he0).1
  have hj : j < l.length := by rw [← hlen]; simpa using hje
  have hbj : (es[j]'hje).born = st := by
    have := (List.getElem?_eq_some_iff.1 he0).2
    rw [← hst, ← this]; simp
  have hfi : es.findIdx? (fun e => (e.born : Int) == (st : Int)) = some j := by
    rw [Array.findIdx?_eq_some_iff_getElem]
    refine ⟨hje, by simp [hbj], fun i hi => ?_⟩
    have hp := List.pairwise_iff_getElem.1 h4 i j (by simp; omega) (by simpa using hje) hi
    simp only [List.getElem_map, Array.getElem_toList] at hp
    rw [hbj] at hp
    simp
    omega
  have hbm : (es.modify j fun e => { e with val := venc v }).toList.map (·.born) = es.toList.map (·.born) := by
    apply List.ext_getElem?
    intro i
    simp only [List.getElem?_map, Array.getElem?_toList, Array.getElem?_modify]
    by_cases e : j = i
    · subst e; simp [hje]
    · simp [e]
  refine ⟨setB w b (.map (es.modify j fun e => { e with val := venc v }) clock), by simp [Instr.entryStore, hg, asInt, asIntOf, hfi, so], (s4.setB Upd.here).ent (Ent.imp fun h hh => ⟨_, _, hh, ?_, nodup_put h3, ?_, ?_⟩)⟩
  · rw [put_at h3 h6]
    apply List.ext_getElem?
    intro i
    have := congrArg (fun q : List (Value × Value) => q[i]?) h2
    simp only [List.getElem?_map] at this
    simp only [List.getElem?_map, Array.getElem?_toList, Array.getElem?_modify, List.getElem?_set]
    by_cases e : j = i
    · subst e
      obtain ⟨p, hp, hk⟩ := Option.map_eq_some_iff.1 h6
      rw [hp, show es.toList[j]? = some (es[j]'hje) from by simp [hje]] at this
      simp at this
      simp [hje, hj, this.1, hk]
    · simpa [e] using this
  · rw [hbm]; exact h4
  · intro e he
    obtain ⟨i, hi, rfl⟩ := List.getElem_of_mem he
    have hi' : i < es.size := by simpa using hi
    simp only [Array.getElem_toList, Array.getElem_modify]
    have := h5 (es[i]'hi') (by simp)
    split <;> simpa using this
theorem L.mapEntry {t kt et : TypeId} {x y : Operand} {b : Nat} {k : κ} {l : List (κ × ν)} {z0 : ν} (hd : Nat.blt d n = true) (hU : P.underlying t = some (.map kt et)) (hK : KeyT P kt kenc) (hz : ∀ w, (zeroValue et).run P w = .ok (venc z0) w)
    (hx : ev K x = some (.map (some b))) (hy : ev K y = some (kenc k)) (hm : Pull (mp b kenc venc l) M N)
    (next : ∀ st : Nat, TL none P σ n ops Q rest ((d, .tuple #[venc ((look l k).getD z0), .int .i64 (st : Int)]) :: K) D (mpS b kenc venc (put l k ((look l k).getD z0)) k st :: N)) :
    TL none P σ n ops Q (⟨some d, .mapEntry t x y, ty, pos, aft, none⟩ :: rest) K D M :=
  L.valEx hd (fun v D' M' => ∃ st : Nat, v = .tuple #[venc ((look l k).getD z0), .int .i64 (st : Int)] ∧ D' = D ∧ M' = mpS b kenc venc (put l k ((look l k).getD z0)) k st :: N) (fun a w s ss => by
    obtain ⟨st, w', hr, hs⟩ := mp_entry (k := k) hU hK hz hm ss
    refine ⟨_, _, _, w', ?_, ⟨st, rfl, rfl, rfl⟩, hs⟩
    have ex : a.eval x = _ := s.eval hx
    have ey : a.eval y = _ := s.eval hy
    simp only [execOp, ex, ey]
    simp [hr]) (fun v D' M' ⟨st, e1, e2, e3⟩ => by subst e1; subst e2; subst e3; exact next st)
theorem L.entryStore {t : TypeId} {x y u : Operand} {b st : Nat} {k : κ} {l : List (κ × ν)} {v : ν} {uv : Value} (hx : ev K x = some (.map (some b))) (hy : ev K y = some (.int .i64 (st : Int))) (hu : ev K u = some uv) (hv : uv = venc v) (hm : Pull (mpS b kenc venc l k st) M N)
    (next : TL none P σ n ops Q rest K D (mp b kenc venc (put l k v) :: N)) : TL none P σ n ops Q (⟨none, .entryStore t x y u, ty, pos, aft, none⟩ :: rest) K D M :=
  L.eff (fun a w s ss => by
    obtain ⟨w', hr, hs⟩ := mp_store (P := P) (t := t) (v := v) hm ss
    refine ⟨w', ?_, hs⟩
    have ex : a.eval x = _ := s.eval hx
    have ey : a.eval y = _ := s.eval hy
    have eu : a.eval u = _ := s.eval hu
    subst hv
    simp only [execOp, ex, ey, eu]
    simp [hr]) next
theorem L.lookup1E {t kt et : TypeId} {x y : Operand} {b st : Nat} {k k0 : κ} {l : List (κ × ν)} {z : Value} (hd : Nat.blt d n = true) (hU : P.underlying t = some (.map kt et)) (hK : KeyT P kt kenc) (hz : ∀ w, (zeroValue et).run P w = .ok z w)
    (hx : ev K x = some (.map (some b))) (hy : ev K y = some (kenc k)) (hm : mpS b kenc venc l k0 st ∈ M)
    (next : TL m P σ n ops Q rest ((d, ((look l k).map venc).getD z) :: K) D M) : TL m P σ n ops Q (⟨some d, .lookup t x y false, ty, pos, aft, none⟩ :: rest) K D M :=
  L.quiet hd (fun a w s ss => by
    obtain ⟨y', ly, H⟩ := ss.own hm
    obtain ⟨es, clock, h1, h2, _⟩ := mpS_mp H
    have h3 := run_lookup (ok := false) (k := k) hU hK hz (ly _ _ h1) h2
    have ex : a.eval x = _ := s.eval hx
    have ey : a.eval y = _ := s.eval hy
    simp only [execOp, ex, ey]
    simp [h3]) next
end
end Cv
