/-
  My own library for walks (CvRange CvDel CvNext CvExt CvKey CvIns CvPart): separation logic over the calls of the kit; no statement of this seat stands here.
-/
import Derived.Test.YtdajpfbgikgkeaaCvLc
import Derived.Laws.IdiomRangeMap
import Derived.Lib.Bytealg
import Derived.Laws.Externs
set_option linter.unusedVariables false
set_option linter.unusedSimpArgs false
set_option linter.unusedSectionVars false
namespace Cv
open Go
/-! ## ranging over a map: in whatever order -/
theorem run_nextG {P : Program} {w : World} {ty : TypeId} {it bm since c0 : Nat} {seen : Array Nat} {es : Array MapEntry} {clock : Nat} (hb : w.heap[bm]? = some (.map es clock)) (hi : w.heap[it]? = some (.mapIter (some bm) since seen c0)) (hold : ∀ x ∈ es.toList, x.born < since) (hsc : since ≤ c0) :
    ((leftOf es seen).toList = [] ∧ (Instr.next (.pointer (some ⟨it, 0, none⟩)) false ty).run P w = .ok (.tuple #[.bool false]) w) ∨
    ∃ e ∈ (leftOf es seen).toList, ∃ k, w.drawn ≤ k ∧ (Instr.next (.pointer (some ⟨it, 0, none⟩)) false ty).run P w = .ok (.tuple #[.bool true, e.key, e.val]) (setB { w with drawn := k } it (.mapIter (some bm) since (seen.push e.born) clock)) := by
  simp only [Instr.next, getObj, Sem.run_bind, Sem.run, hi, hb, Result.andThen, next_test_false seen es since c0 hold hsc, Bool.false_eq_true, if_false]
  unfold leftOf
  have hmem : ∀ x ∈ (Array.filter (fun e => !seen.contains e.born) es).toList, x.born < since := fun x hx => hold x (by simp at hx ⊢; exact hx.1)
  generalize Array.filter (fun e => !seen.contains e.born) es = L at hmem ⊢
  have e1 : L.filter (fun x => decide (x.born < since)) = L := Array.filter_eq_self.2 (fun x hx => by simpa using hmem x (by simpa using hx))
  have e2 : L.filter (fun x => decide (x.born ≥ since)) = #[] := by
    rw [Array.filter_eq_empty_iff]
    intro x hx
    have := hmem x (by simpa using hx)
    simp
    omega
  simp only [e1, e2, Array.append_empty]
  by_cases h0 : L.size = 0
  · left
    have : L = #[] := Array.eq_empty_of_size_eq_zero h0
    subst this
    refine ⟨rfl, ?_⟩
    simp [choose, Sem.run, Question.forced]
  · right
    have hne : L.isEmpty = false := by simp [Array.isEmpty, h0]
    simp only [hne, Bool.false_eq_true, if_false, Array.empty_append, Array.size_map]
    have hch : ∃ (j k : Nat), j < L.size ∧ w.drawn ≤ k ∧ (choose (Question.mapNext L.size)).run P w = .ok j { w with drawn := k } := by
      by_cases hf : L.size ≤ 1
      · exact ⟨0, w.drawn, by omega, Nat.le_refl _, by simp [choose, Sem.run, Question.forced, hf]⟩
      · refine ⟨_, w.drawn + 1, Nat.mod_lt (w.tape w.drawn (Question.mapNext L.size)) (by omega), Nat.le_succ _, ?_⟩
        rw [run_choose_drew]
        simp only [Question.forced, decide_eq_true_eq, hf, if_false, Question.cut]
        rfl
    obtain ⟨j, k, hj, hk, hc⟩ := hch
    refine ⟨L[j], by simp, k, hk, ?_⟩
    have hcand : (L.map some)[j]? = some (some L[j]) := by simp [hj]
    rw [hc]
    simp only [hcand]
    have hs := setB_setObj (P := P) (w := { w with drawn := k }) (b := it) (o := .mapIter (some bm) since seen c0) (o' := .mapIter (some bm) since (seen.push L[j].born) clock) hi (fun _ _ _ => by simp)
    simp only [Sem.run_bind, hs, Result.andThen]
    rfl
section
variable {κ ν : Type} {kenc : κ → Value} {venc : ν → Value}
/-- the keys that have not been handed out -/
def restK (l : List (κ × ν)) (bs : List Nat) (seen : Array Nat) : List κ := ((l.zip bs).filter (fun p => !seen.contains p.2)).map (·.1.1)
structure MI (l : List (κ × ν)) (kenc : κ → Value) (venc : ν → Value) (rest : List κ) (cur : Option κ) where
  es : Array MapEntry
  clock : Nat
  since : Nat
  seen : Array Nat
  last : Nat
  val : es.toList.map (fun e => (e.key, e.val)) = l.map (fun p => (kenc p.1, venc p.2))
  keys : (l.map Prod.fst).Nodup
  borns : (es.toList.map (·.born)).Nodup
  old : ∀ e ∈ es.toList, e.born < since
  sc : since ≤ clock
  sl : since ≤ last
  rest : rest.Perm (restK l (es.toList.map (·.born)) seen)
  now : cur.isSome = true → clock = last
  cur : ∀ k, cur = some k → ∃ e ∈ es.toList, seen.back? = some e.born ∧ ∃ v, (k, v) ∈ l ∧ e.key = kenc k ∧ e.val = venc v
/-- block b is a map with the entries l, block `it` one's place in it: the keys `rest` are still to come, in whatever order; `cur` was the last one -/
def mpi (b it : Nat) (kenc : κ → Value) (venc : ν → Value) (l : List (κ × ν)) (rest : List κ) (cur : Option κ) : Asn := fun z => ∃ x : MI l kenc venc rest cur, Holds [pt it (.mapIter (some b) x.since x.seen x.last), pt b (.map x.es x.clock)] z
theorem restK_nil {l : List (κ × ν)} {bs : List Nat} (h : bs.length = l.length) : restK l bs #[] = l.map Prod.fst := by
  unfold restK
  rw [List.filter_eq_self.2 (fun a _ => by simp)]
  induction l generalizing bs with
  | nil => simp
  | cons p l ih =>
    cases bs with
    | nil => simp at h
    | cons b bs => simp only [List.zip_cons_cons, List.map_cons]; rw [ih (by simpa using h)]
theorem perm_take {α : Type} {g : α → Nat} : ∀ {zs : List α}, (zs.map g).Nodup → ∀ {p : α}, p ∈ zs → zs.Perm (p :: zs.filter (fun q => decide (g q ≠ g p)))
  | [], _, _, h => by cases h
  | z :: zs, hn, p, h => by
    simp only [List.map_cons, List.nodup_cons] at hn
    rcases List.mem_cons.1 h with rfl | h
    · have e : zs.filter (fun q => decide (g q ≠ g p)) = zs := List.filter_eq_self.2 (fun q hq => by
        simp only [ne_eq, decide_not, Bool.not_eq_true', decide_eq_false_iff_not]
        exact fun e => hn.1 (List.mem_map.2 ⟨q, hq, e⟩))
      rw [List.filter_cons_of_neg (by simp), e]
    · have hne : g z ≠ g p := fun e => hn.1 (List.mem_map.2 ⟨p, h, e.symm⟩)
      rw [List.filter_cons_of_pos (by simpa using hne)]
      exact ((perm_take hn.2 h).cons z).trans (List.Perm.swap _ _ _)
theorem zip_mem {l : List (κ × ν)} {es : List MapEntry} (h : es.map (fun e => (e.key, e.val)) = l.map (fun p => (kenc p.1, venc p.2))) {e : MapEntry} (he : e ∈ es) : ∃ p ∈ l, e.key = kenc p.1 ∧ e.val = venc p.2 ∧ (p, e.born) ∈ l.zip (es.map (·.born)) := by
  induction es generalizing l with
  | nil => cases he
  | cons x es ih =>
    cases l with
    | nil => simp at h
    | cons p l =>
      simp only [List.map_cons, List.cons.injEq, Prod.mk.injEq] at h
      rcases List.mem_cons.1 he with rfl | he
      · exact ⟨p, by simp, h.1.1, h.1.2, by simp⟩
      · obtain ⟨q, hq, h1, h2, h3⟩ := ih h.2 he
        exact ⟨q, by simp [hq], h1, h2, by simp [h3]⟩
theorem zip_snd {l : List (κ × ν)} {bs : List Nat} (h : bs.length = l.length) : (l.zip bs).map (·.2) = bs := by
  induction l generalizing bs with
  | nil => cases bs with
    | nil => rfl
    | cons _ _ => simp at h
  | cons p l ih =>
    cases bs with
    | nil => simp at h
    | cons b bs => simp only [List.zip_cons_cons, List.map_cons]; rw [ih (by simpa using h)]
theorem restK_push {l : List (κ × ν)} {bs : List Nat} {seen : Array Nat} {p : κ × ν} {b : Nat} (hlen : bs.length = l.length) (hn : bs.Nodup) (hm : (p, b) ∈ l.zip bs) (hs : seen.contains b = false) : (restK l bs seen).Perm (p.1 :: restK l bs (seen.push b)) := by
  unfold restK
  have hn2 : (((l.zip bs).filter (fun p => !seen.contains p.2)).map (·.2)).Nodup := by
    refine List.Nodup.sublist ((List.filter_sublist).map _) ?_
    rw [zip_snd hlen]; exact hn
  have hp := perm_take (g := (·.2)) hn2 (p := (p, b)) (List.mem_filter.2 ⟨hm, by simpa using hs⟩)
  have := hp.map (·.1.1)
  refine this.trans ?_
  rw [List.map_cons, List.filter_filter]
  refine List.Perm.of_eq ?_
  congr 2
  apply List.filter_congr
  intro q _
  simp only [Array.contains_push, ne_eq, decide_not]
  by_cases e : q.2 = b
  · simp [e]
  · simp [e]
variable {P : Program} {σ : World} {n : Nat} {Q : Post} {K : Env} {D M N : List Asn} {ops : Array Oper} {rest' : List Oper} {d : Nat} {ty : TypeId} {pos : String} {aft : Array Edge} {G : Act → World → Prop}
theorem mp_open {b : Nat} {l : List (κ × ν)} {w : World} (ss : Sat σ D (mp b kenc venc l :: N) w) : ∃ es clock, es.toList.map (fun e => (e.key, e.val)) = l.map (fun p => (kenc p.1, venc p.2)) ∧ (l.map Prod.fst).Nodup ∧ (es.toList.map (·.born)).Nodup ∧ (∀ e ∈ es.toList, e.born < clock) ∧ Sat σ D (pt b (.map es clock) :: N) w := by
  obtain ⟨z, k, h1, h2, h3, h4, ⟨g1, g2, l1, l2, dj, H, hN⟩⟩ := ss.heap
  obtain ⟨es, clock, e1, e2, e3, e4, e5⟩ := H
  exact ⟨es, clock, e2, e3, e4, e5, ss.os, ss.tape, ss.output, z, k, h1, h2, h3, h4, g1, g2, l1, l2, dj, e1, hN⟩
theorem mpi_open {b it : Nat} {l : List (κ × ν)} {rest : List κ} {cur : Option κ} {w : World} (ss : Sat σ D (mpi b it kenc venc l rest cur :: N) w) : ∃ x : MI l kenc venc rest cur, Sat σ D (pt it (.mapIter (some b) x.since x.seen x.last) :: pt b (.map x.es x.clock) :: N) w := by
  obtain ⟨x, hs⟩ := ss.ex (A := fun (x : MI l kenc venc rest cur) z => Holds [pt it (.mapIter (some b) x.since x.seen x.last), pt b (.map x.es x.clock)] z)
  exact ⟨x, hs.ent Ent.unfold⟩
theorem mpi_shut {b it : Nat} {l : List (κ × ν)} {rest : List κ} {cur : Option κ} {w : World} (x : MI l kenc venc rest cur) (ss : Sat σ D (pt it (.mapIter (some b) x.since x.seen x.last) :: pt b (.map x.es x.clock) :: N) w) : Sat σ D (mpi b it kenc venc l rest cur :: N) w :=
  (ss.ent (Ent.fold (L := [pt it (.mapIter (some b) x.since x.seen x.last), pt b (.map x.es x.clock)]))).ent (Ent.imp fun z H => ⟨x, H⟩)
theorem L.range {t kt et : TypeId} {x : Operand} {b : Nat} {l : List (κ × ν)} (hd : Nat.blt d n = true) (hU : P.underlying t = some (.map kt et)) (hx : ev K x = some (.map (some b))) (hM : Pull (mp b kenc venc l) M N)
    (next : ∀ it, TL none P σ n ops Q rest' ((d, .pointer (some ⟨it, 0, none⟩)) :: K) D (mpi b it kenc venc l (l.map Prod.fst) none :: N)) : TL none P σ n ops Q (⟨some d, .range t x, ty, pos, aft, none⟩ :: rest') K D M :=
  L.valEx hd (fun v D' M' => ∃ it, v = .pointer (some ⟨it, 0, none⟩) ∧ D' = D ∧ M' = mpi b it kenc venc l (l.map Prod.fst) none :: N) (fun a w s ss => by
    obtain ⟨es, clock, e1, e2, e3, e4, hs⟩ := mp_open (ss.ent hM)
    have hb := hs.block (.head _)
    have ex : a.eval x = _ := s.eval hx
    have hr := run_range_map (P := P) w t kt et b es clock hU hb
    refine ⟨_, _, _, w.alloc (.mapIter (some b) clock #[] clock), ?_, ⟨w.heap.size, rfl, rfl, rfl⟩, ?_⟩
    · simp only [execOp, ex]; simp [hr]
    · exact mpi_shut ⟨es, clock, clock, #[], clock, e1, e2, e3, e4, Nat.le_refl _, Nat.le_refl _, by rw [restK_nil (by have := congrArg List.length e1; simpa using this)], (fun h => by cases h), (fun k h => by cases h)⟩ (hs.alloc _))
    (fun v D' M' ⟨it, e1, e2, e3⟩ => by subst e1; subst e2; subst e3; exact next it)
theorem L.next {x : Operand} {b it : Nat} {l : List (κ × ν)} {rest : List κ} {cur : Option κ} (hd : Nat.blt d n = true) (hx : ev K x = some (.pointer (some ⟨it, 0, none⟩))) (hM : Pull (mpi b it kenc venc l rest cur) M N)
    (h1 : rest = [] → TL none P σ n ops Q rest' ((d, .tuple #[.bool false]) :: K) D (mpi b it kenc venc l [] cur :: N))
    (h2 : ∀ k v rs, rest.Perm (k :: rs) → (k, v) ∈ l → TL none P σ n ops Q rest' ((d, .tuple #[.bool true, kenc k, venc v]) :: K) D (mpi b it kenc venc l rs (some k) :: N)) :
    TL none P σ n ops Q (⟨some d, .next x false, ty, pos, aft, none⟩ :: rest') K D M :=
  L.valEx hd (fun u D' M' => (rest = [] ∧ u = .tuple #[.bool false] ∧ D' = D ∧ M' = mpi b it kenc venc l [] cur :: N) ∨ ∃ k v rs, rest.Perm (k :: rs) ∧ (k, v) ∈ l ∧ u = .tuple #[.bool true, kenc k, venc v] ∧ D' = D ∧ M' = mpi b it kenc venc l rs (some k) :: N) (fun a w s ss => by
    obtain ⟨y, hs⟩ := mpi_open (ss.ent hM)
    have hi := hs.block (.head _)
    have hb := hs.block (.tail _ (.head _))
    have ex : a.eval x = _ := s.eval hx
    have hlen : (y.es.toList.map (·.born)).length = l.length := by have := congrArg List.length y.val; simpa using this
    rcases run_nextG (P := P) (ty := ty) hb hi y.old y.sl with ⟨h0, hr⟩ | ⟨e, he, k, hkd, hr⟩
    · have hrest : rest = [] := by
        have hp := y.rest
        have : restK l (y.es.toList.map (·.born)) y.seen = [] := by
          unfold restK
          rw [List.map_eq_nil_iff, List.filter_eq_nil_iff]
          intro q hq
          obtain ⟨p, bq⟩ := q
          have hbq : bq ∈ y.es.toList.map (·.born) := by
            have := List.mem_map_of_mem (f := (·.2)) hq
            rwa [zip_snd hlen] at this
          obtain ⟨e, he, rfl⟩ := List.mem_map.1 hbq
          have hne : e ∉ (leftOf y.es y.seen).toList := by rw [h0]; simp
          simp only [leftOf, Array.toList_filter, List.mem_filter, not_and] at hne
          simpa using hne he
        rw [this] at hp
        exact List.perm_nil.1 hp
      refine ⟨_, _, _, w, ?_, .inl ⟨hrest, rfl, rfl, rfl⟩, ?_⟩
      · simp only [execOp, ex]; simp [hr]
      · subst hrest; exact mpi_shut y hs
    · have he' : e ∈ y.es.toList ∧ y.seen.contains e.born = false := by
        simp only [leftOf, Array.toList_filter, List.mem_filter] at he
        exact ⟨he.1, by simpa using he.2⟩
      obtain ⟨p, hp, q1, q2, q3⟩ := zip_mem y.val he'.1
      have hperm := restK_push hlen y.borns q3 he'.2
      refine ⟨_, _, _, setB { w with drawn := k } it (.mapIter (some b) y.since (y.seen.push e.born) y.clock), ?_, .inr ⟨p.1, p.2, restK l (y.es.toList.map (·.born)) (y.seen.push e.born), y.rest.trans hperm, hp, rfl, rfl, rfl⟩, ?_⟩
      · simp only [execOp, ex]; simp [hr, q1, q2]
      · exact mpi_shut ⟨y.es, y.clock, y.since, y.seen.push e.born, y.clock, y.val, y.keys, y.borns, y.old, y.sc, y.sc, .refl _, fun _ => rfl, fun k' hk' => by
          cases hk'
          exact ⟨e, he'.1, by simp, p.2, hp, q1, q2⟩⟩ ((hs.drew k hkd).setB Upd.here))
    (fun v D' M' h => by
      rcases h with ⟨h0, e1, e2, e3⟩ | ⟨k, v, rs, h0, h3, e1, e2, e3⟩
      · subst e1; subst e2; subst e3; exact h1 h0
      · subst e1; subst e2; subst e3; exact h2 k v rs h0 h3)
theorem L.entry {x : Operand} {b it : Nat} {l : List (κ × ν)} {rest : List κ} {k : κ} {v : ν} (hinj : ∀ k' v', (k', v') ∈ l → kenc k' = kenc k → v' = v) (hd : Nat.blt d n = true) (hx : ev K x = some (.pointer (some ⟨it, 0, none⟩))) (hm : mpi b it kenc venc l rest (some k) ∈ M) (hv : (k, v) ∈ l)
    (next : TL none P σ n ops Q rest' ((d, .tuple #[kenc k, venc v]) :: K) D M) : TL none P σ n ops Q (⟨some d, .entry x, ty, pos, aft, none⟩ :: rest') K D M :=
  L.val hd (fun a w s ss => by
    obtain ⟨z, lz, y, g1, g2, l1, l2, dj, hi, ⟨g3, g4, l3, l4, dj2, hb, _⟩⟩ := ss.own hm
    have hi' : w.heap[it]? = some (.mapIter (some b) y.since y.seen y.last) := lz _ _ (l1 _ _ hi)
    have hb' : w.heap[b]? = some (.map y.es y.clock) := lz _ _ (l2 _ _ (l3 _ _ hb))
    obtain ⟨e, he, hbk, v', hv', q1, q2⟩ := y.cur k rfl
    have hvv : v' = v := hinj k v' hv' rfl
    subst hvv
    have hf : y.es.find? (·.born == e.born) = some e := by rw [← Array.find?_toList]; exact find_born e y.es.toList y.borns he
    have ex : a.eval x = _ := s.eval hx
    have hnow := y.now rfl
    refine ⟨w, ?_, ss⟩
    simp only [execOp, ex, Instr.entry, getObj, Sem.run_bind, Sem.run, hi', hb', Result.andThen, hbk, bne_self_eq_false, Bool.false_eq_true, if_false, hf]
    simp [q1, q2, hnow]) next
theorem T.mpiMp {b it : Nat} {l : List (κ × ν)} {rest : List κ} {cur : Option κ} (hM : Pull (mpi b it kenc venc l rest cur) M N) (next : T σ n G K D (mp b kenc venc l :: N)) : T σ n G K D M := fun a w s ss => by
  obtain ⟨y, hs⟩ := mpi_open (ss.ent hM)
  refine next a w s ((hs.ent (Ent.skip (.refl _))).ent (Ent.imp fun z hz => ⟨y.es, y.clock, hz, y.val, y.keys, y.borns, fun e he => Nat.lt_of_lt_of_le (y.old e he) y.sc⟩))
end
end Cv
namespace Cv
open Go
/-! ## a slice's own elements, moved within it (append of a later part onto an earlier one) -/
section
variable {P : Program} {σ : World} {n : Nat} {Q : Post} {K : Env} {D M N : List Asn} {m : Option (List Asn × List Asn)} {ops : Array Oper} {l rest : List Oper} {d : Nat} {ty : TypeId} {pos : String} {aft : Array Edge}
theorem splice_any {α : Type} (l news : List α) (o j : Nat) (h : o + news.length ≤ l.length) :
    (l.take o ++ news ++ l.drop (o + news.length))[j]? = if j < o then l[j]? else if j < o + news.length then news[j - o]? else l[j]? := by
  have h1 : (l.take o).length = o := by simp; omega
  by_cases h2 : j < o
  · rw [if_pos h2, List.append_assoc, List.getElem?_append_left (by omega), List.getElem?_take_of_lt h2]
  · rw [if_neg h2]
    by_cases h3 : j < o + news.length
    · rw [if_pos h3, List.getElem?_append_left (by simp; omega), List.getElem?_append_right (by omega), h1]
    · rw [if_neg h3, List.getElem?_append_right (by simp; omega)]
      simp only [List.length_append, h1, List.getElem?_drop]
      congr 1; omega
theorem rowsAt_splice {sz o i : Nat} {rows news : List (List Value)} {c : List Value} (h : ∀ r ∈ rows, r.length = sz) (h' : ∀ r ∈ news, r.length = sz) (hn : i + news.length ≤ rows.length)
    (H : RowsAt sz rows c.toArray o) (hc : o + rows.length * sz ≤ c.length) : RowsAt sz (rows.take i ++ news ++ rows.drop (i + news.length)) (c.take (o + i * sz) ++ news.flatten ++ c.drop (o + i * sz + news.flatten.length)).toArray o := by
  intro q p r v h1 h2
  have hf := rows_flat_len h'
  have hle : (i + news.length) * sz ≤ rows.length * sz := Nat.mul_le_mul_right _ hn
  rw [Nat.add_mul] at hle
  rw [splice_any _ _ _ _ hn] at h1
  simp only [List.getElem?_toArray]
  rw [splice_get c news.flatten (o + i * sz) (o + q * sz + p) (by rw [hf]; omega), hf]
  have hp := (List.getElem?_eq_some_iff.1 h2).1
  by_cases c1 : q < i
  · rw [if_pos c1] at h1
    have hr := h r (List.mem_of_getElem? h1)
    have : (q + 1) * sz ≤ i * sz := Nat.mul_le_mul_right _ c1
    rw [Nat.add_mul] at this
    rw [if_pos (by omega)]
    simpa using H q p r v h1 h2
  · rw [if_neg c1] at h1
    have h3 : i * sz ≤ q * sz := Nat.mul_le_mul_right _ (by omega)
    by_cases c2 : q < i + news.length
    · rw [if_pos c2] at h1
      have hr := h' r (List.mem_of_getElem? h1)
      have : (q + 1) * sz ≤ (i + news.length) * sz := Nat.mul_le_mul_right _ c2
      rw [Nat.add_mul, Nat.add_mul] at this
      rw [if_neg (by omega), if_pos (by omega)]
      have h4 := flatten_at h' h1 h2
      rw [Nat.sub_mul] at h4
      rw [show o + q * sz + p - (o + i * sz) = q * sz - i * sz + p from by omega]
      exact h4
    · rw [if_neg c2] at h1
      have : (i + news.length) * sz ≤ q * sz := Nat.mul_le_mul_right _ (by omega)
      rw [Nat.add_mul] at this
      rw [if_neg (by omega), if_neg (by omega)]
      simpa using H q p r v h1 h2
theorem sat_splice {w : World} {sz b o len cap i : Nat} {e : TypeId} {rows news : List (List Value)} (ss : Sat σ D (own sz e (some ⟨b, o, none⟩) len cap rows :: N) w) (h' : ∀ r ∈ news, r.length = sz) (hn : i + news.length ≤ len) :
    ∃ cs : List Value, w.heap[b]? = some (.cells cs.toArray e (0, 0)) ∧ o + len * sz ≤ cs.length ∧ (∀ r ∈ rows, r.length = sz) ∧ RowsAt sz rows cs.toArray o ∧ len ≤ cap ∧
      Sat σ D (own sz e (some ⟨b, o, none⟩) len cap (rows.take i ++ news ++ rows.drop (i + news.length)) :: N) (setB w b (.cells (cs.take (o + i * sz) ++ news.flatten ++ cs.drop (o + i * sz + news.flatten.length)).toArray e (0, 0))) := by
  obtain ⟨z, k, h1, h2, h3, h4, ⟨g1, g2, l1, l2, dj, H, hN⟩⟩ := ss.heap
  obtain ⟨e1, e2, e3, e4⟩ := H
  rcases e4 with ⟨e4, _⟩ | ⟨b', o', cs, e4, e5, e6, e7⟩
  · cases e4
  injection e4 with e4; injection e4 with e8 e9
  subst e8; subst e9
  have hb : w.heap[b]? = some (.cells cs e (0, 0)) := h2 _ _ (l1 _ _ e5)
  have hle : len * sz ≤ cap * sz := Nat.mul_le_mul_right _ e2
  have hf := rows_flat_len h'
  have hle2 : (i + news.length) * sz ≤ len * sz := Nat.mul_le_mul_right _ hn
  rw [Nat.add_mul] at hle2
  have hcs : o + len * sz ≤ cs.toList.length := by rw [Array.length_toList]; omega
  refine ⟨cs.toList, by simpa using hb, hcs, e3, by simpa using e7, e2, ?_⟩
  have s2 : Sat σ D (pt b (.cells cs e (0, 0)) :: N) w := ⟨ss.os, ss.tape, ss.output, z, k, h1, h2, h3, h4, g1, g2, l1, l2, dj, e5, hN⟩
  refine (s2.setB (o' := .cells (cs.toList.take (o + i * sz) ++ news.flatten ++ cs.toList.drop (o + i * sz + news.flatten.length)).toArray e (0, 0)) Upd.here).ent (Ent.imp fun h hp => ?_)
  refine ⟨by simp; omega, e2, fun r' hr' => ?_, .inr ⟨b, o, _, rfl, hp, ?_, rowsAt_splice e3 h' (by omega) (by simpa using e7) (by rw [e1]; exact hcs)⟩⟩
  · rcases List.mem_append.1 hr' with h | h
    · rcases List.mem_append.1 h with h | h
      · exact e3 _ (List.mem_of_mem_take h)
      · exact h' _ h
    · exact e3 _ (List.mem_of_mem_drop h)
  · rw [List.size_toArray, List.length_append, List.length_append, List.length_take, List.length_drop, hf]
    rw [Array.length_toList] at hcs ⊢
    omega
theorem L.appendIn {t e : TypeId} {x y : Operand} {b o len cap i j sz bytes : Nat} {rows : List (List Value)} (hd : Nat.blt d n = true) (hU : P.underlying t = some (.slice e)) (hE : El P e sz bytes)
    (hx : ev K x = some (.slice (some ⟨b, o, none⟩) i cap)) (hy : ev K y = some (.slice (cutA (some ⟨b, o, none⟩) cap j sz) (len - j) (cap - j))) (hM : Pull (own sz e (some ⟨b, o, none⟩) len cap rows) M N)
    (hi : i ≤ j) (hj : j ≤ len) (hl : rows.length = len) (h1 : ∀ u ∈ rows.flatten, u.oneCell' = true)
    (next : TL none P σ n ops Q rest ((d, .slice (some ⟨b, o, none⟩) (i + (len - j)) cap) :: K) D (own sz e (some ⟨b, o, none⟩) len cap (rows.take i ++ rows.drop j ++ rows.drop (i + (len - j))) :: N)) :
    TL none P σ n ops Q (⟨some d, .call { callee := .builtin .append, args := #[x, y], argTypes := #[t, t] }, ty, pos, aft, none⟩ :: rest) K D M :=
  L.valEx hd (fun v D' M' => v = .slice (some ⟨b, o, none⟩) (i + (len - j)) cap ∧ D' = D ∧ M' = own sz e (some ⟨b, o, none⟩) len cap (rows.take i ++ rows.drop j ++ rows.drop (i + (len - j))) :: N) (fun aa w s ss => by
    have ss1 := ss.ent hM
    have hr : ∀ r ∈ rows.drop j, r.length = sz := by
      obtain ⟨y, ly, H⟩ := ss1.own (.head _)
      exact fun r hr => H.2.2.1 r (List.mem_of_mem_drop hr)
    have hdl : (rows.drop j).length = len - j := by rw [List.length_drop, hl]
    obtain ⟨cs, hb, hfit, hrs, hra, hlc, hS⟩ := sat_splice (i := i) (news := rows.drop j) ss1 hr (by omega)
    obtain ⟨ii, z, hii, hz, hsz, hby, hzs⟩ := hE
    have hf := rows_flat_len hr
    rw [hdl] at hf
    have hle2 : (i + (len - j)) * sz ≤ len * sz := Nat.mul_le_mul_right _ (by omega)
    rw [Nat.add_mul] at hle2
    have hfl := rowsAt_flat hrs hra
    have hcut : ∃ p, cutA (some ⟨b, o, none⟩) cap j sz = some p ∧ ∀ q u, (rows.drop j).flatten[q]? = some u → w.cell? (p.add q) = some u := by
      unfold cutA
      by_cases hc : cap = j
      · refine ⟨_, if_pos hc, fun q u hq => ?_⟩
        have : rows.drop j = [] := List.drop_of_length_le (by omega)
        rw [this] at hq; simp at hq
      · refine ⟨_, if_neg hc, fun q u hq => ?_⟩
        have hd2 : rows.flatten[j * sz + q]? = some u := by
          rw [← List.take_append_drop j rows, List.flatten_append, List.getElem?_append_right (by rw [rows_flat_len (sz := sz) (fun r hr => hrs r (List.mem_of_mem_take hr))]; simp; rw [hl, Nat.min_eq_left hj]; omega)]
          rw [rows_flat_len (sz := sz) (fun r hr => hrs r (List.mem_of_mem_take hr)), List.length_take, hl, Nat.min_eq_left hj]
          simpa using hq
        have := hfl _ _ hd2
        show w.cell? ((Addr.add ⟨b, o, none⟩ (j * sz)).add q) = some u
        rw [add_lit, add_lit, cell_of hb, Nat.add_assoc]
        exact this
    obtain ⟨p, hp, hcell⟩ := hcut
    have hrun := run_append_in (P := P) w t ty e ii hU hii b o i cap cs.toArray hb p (len - j) (cap - j) (rows.drop j).flatten (by rw [hf, hsz]) hcell (fun u hu => h1 u (by
      obtain ⟨r, hr, hu⟩ := List.mem_flatten.1 hu
      exact List.mem_flatten.2 ⟨r, List.mem_of_mem_drop hr, hu⟩)) (by omega) (by rw [hf, hsz, List.size_toArray]; omega)
    rw [setRow_setB hb, hsz] at hrun
    rw [hdl] at hS
    refine ⟨_, _, _, _, ?_, ⟨rfl, rfl, rfl⟩, hS⟩
    have ex : aa.eval x = _ := s.eval hx
    have ey : aa.eval y = _ := s.eval hy
    rw [hp] at ey
    simp [execOp, resolve, invoke, builtin, ex, ey, hrun]) (fun v D' M' ⟨e1, e2, e3⟩ => by subst e1; subst e2; subst e3; exact next)
/-- s[l:h:mx] -/
theorem L.sliceMax {t e : TypeId} {x mx : Operand} {lo hi : Option Operand} {a : Option Addr} {len cap l h mm sz : Nat} {k : IntKind} (hd : Nat.blt d n = true) (hU : P.underlying t = some (.slice e)) (hz : Sz P e sz) (hx : ev K x = some (.slice a len cap)) (hlo : Bd K lo 0 l) (hhi : ∃ y k z, hi = some y ∧ ev K y = some (.int k z) ∧ z = (h : Int)) (hmx : ev K mx = some (.int k (mm : Int)))
    (h1 : l ≤ h) (h2 : h ≤ mm) (h3 : mm ≤ cap) (next : TL m P σ n ops Q rest ((d, .slice (cutA a mm l sz) (h - l) (mm - l)) :: K) D M) :
    TL m P σ n ops Q (⟨some d, .slice t x lo hi (some mx), ty, pos, aft, none⟩ :: rest) K D M :=
  L.pureOp hd (fun ρ w s => by
    have e1 := s hx
    have e0 := s hmx
    obtain ⟨y, kk, z, rfl, hy, rfl⟩ := hhi
    have e4 := s hy
    have e2 : (Instr.sliceBounds true len cap (lo.map ρ) (some (.int kk (h : Int))) (some (.int k (mm : Int)))).run P w = .ok (l, h, mm) w := by
      rcases (hlo.val s) with ⟨hl, rfl⟩ | ⟨kl, hl⟩ <;> simp [Instr.sliceBounds, run_sliceBound, h1, h2, h3, hl]
    have e3 := hz w
    simp only [execOp, e1, Option.map_some, e0, e4]
    simp [Instr.sliceAt, run_underlying hU, Instr.slice, e2, e3, cutA]) next
end
end Cv
namespace Cv
open Go
section
variable {κ ν : Type} [DecidableEq κ]
theorem look_of_mem {l : List (κ × ν)} (hn : (l.map Prod.fst).Nodup) {k : κ} {v : ν} (h : (k, v) ∈ l) : look l k = some v := by
  induction l with
  | nil => cases h
  | cons p l ih =>
    obtain ⟨k', v'⟩ := p
    simp only [List.map_cons, List.nodup_cons] at hn
    rcases List.mem_cons.1 h with e | e
    · cases e; simp [look]
    · have hne : k' ≠ k := by
        rintro rfl
        exact hn.1 (List.mem_map_of_mem (f := Prod.fst) e)
      simp only [look, if_neg hne]
      exact ih hn.2 e
theorem ent_inj {l : List (κ × ν)} {kenc : κ → Value} {k : κ} {v : ν} (hinj : ∀ a b, kenc a = kenc b → a = b) (hn : (l.map Prod.fst).Nodup) (hv : (k, v) ∈ l) : ∀ k' v', (k', v') ∈ l → kenc k' = kenc k → v' = v := fun k' v' h e => by
  obtain rfl := hinj _ _ e
  have h1 := look_of_mem hn h
  rw [look_of_mem hn hv] at h1
  exact (Option.some.inj h1).symm
theorem iK_inj (a b : Int) (h : iK a = iK b) : a = b := by unfold iK at h; injection h
end
section
variable {σ : World} {n : Nat} {G : Act → World → Prop} {K : Env} {D M N : List Asn} {κ ν : Type} {kenc : κ → Value} {venc : ν → Value}
theorem T.mpNodup {b : Nat} {l : List (κ × ν)} (hm : mp b kenc venc l ∈ M) (next : (l.map Prod.fst).Nodup → T σ n G K D M) : T σ n G K D M :=
  T.pure hm (fun z ⟨_, _, _, _, h, _⟩ => h) next
end
section
variable {P : Program} {σ : World} {n : Nat} {Q : Post} {K : Env} {D M : List Asn} {m : Option (List Asn × List Asn)} {ops : Array Oper} {rest : List Oper} {d : Nat} {ty : TypeId} {pos : String} {aft : Array Edge} {κ ν : Type} [DecidableEq κ] {kenc : κ → Value} {venc : ν → Value}
theorem L.lenMap {t kt et : TypeId} {x : Operand} {b : Nat} {l : List (κ × ν)} (hd : Nat.blt d n = true) (hU : P.underlying t = some (.map kt et)) (hx : ev K x = some (.map (some b))) (hm : mp b kenc venc l ∈ M) (next : TL m P σ n ops Q rest ((d, .int .i64 l.length) :: K) D M) :
    TL m P σ n ops Q (⟨some d, .call { callee := .builtin .len, args := #[x], argTypes := #[t] }, ty, pos, aft, none⟩ :: rest) K D M :=
  L.quiet hd (fun a w s ss => by
    obtain ⟨es, clock, h1, h2⟩ := mp_run ss hm
    have ex : a.eval x = _ := s.eval hx
    have hl : es.size = l.length := by have := congrArg List.length h2; simpa using this
    have hr : (Builtin.len_ #[t] ty #[.map (some b)]).run P w = .ok (.int .i64 l.length) w := by
      unfold Builtin.len_
      have hg : (getObj b).run P w = .ok (.map es clock) w := by simp [getObj, Sem.run, h1]
      show Sem.run P (underlying t >>= _) w = _
      rw [Sem.run_bind, run_underlying hU, Result.andThen_ok]
      show Sem.run P (getObj b >>= _) w = _
      rw [Sem.run_bind, hg, Result.andThen_ok]
      show Sem.run P (Pure.pure (goInt es.size)) w = _
      rw [hl]; rfl
    simp only [execOp, resolve, List.map_toArray, List.map_cons, List.map_nil, ex]
    simp [invoke, builtin, hr, go_sem]) next
end
end Cv
namespace Cv
open Go
/-! ## functions without a text: comparing bytes -/
abbrev cmpB (a b : List UInt8) : Int := Go.Lib.compareBytes a b
theorem cmpB_self : ∀ (a : List UInt8), cmpB a a = 0
  | [] => rfl
  | x :: a => by
    have h : ¬ x < x := UInt8.lt_irrefl x
    simp only [cmpB, Go.Lib.compareBytes, h, if_false]; exact cmpB_self a
theorem u8_tri {x y : UInt8} (h1 : ¬ x < y) (h2 : ¬ y < x) : x = y := by
  apply UInt8.toNat_inj.1
  rw [UInt8.lt_iff_toNat_lt] at h1 h2
  omega
theorem cmpB_eq : ∀ {a b : List UInt8}, cmpB a b = 0 → a = b
  | [], [], _ => rfl
  | [], _ :: _, h => by simp [cmpB, Go.Lib.compareBytes] at h
  | _ :: _, [], h => by simp [cmpB, Go.Lib.compareBytes] at h
  | x :: a, y :: b, h => by
    simp only [cmpB, Go.Lib.compareBytes] at h
    by_cases h1 : x < y
    · rw [if_pos h1] at h; cases h
    · by_cases h2 : y < x
      · rw [if_neg h1, if_pos h2] at h; cases h
      · rw [if_neg h1, if_neg h2] at h
        rw [u8_tri h1 h2, cmpB_eq h]
theorem cmpB_neg : ∀ (a b : List UInt8), cmpB b a = -cmpB a b
  | [], [] => rfl
  | [], _ :: _ => rfl
  | _ :: _, [] => rfl
  | x :: a, y :: b => by
    simp only [cmpB, Go.Lib.compareBytes]
    by_cases h1 : x < y
    · have h2 : ¬ y < x := by rw [UInt8.lt_iff_toNat_lt] at h1 ⊢; omega
      rw [if_pos h1, if_neg h2, if_pos h1]; rfl
    · by_cases h2 : y < x
      · rw [if_pos h2, if_neg h1, if_pos h2]
      · rw [if_neg h1, if_neg h2, if_neg h2, if_neg h1]; exact cmpB_neg a b
theorem cmpB_vals : ∀ (a b : List UInt8), cmpB a b = -1 ∨ cmpB a b = 0 ∨ cmpB a b = 1
  | [], [] => .inr (.inl rfl)
  | [], _ :: _ => .inl rfl
  | _ :: _, [] => .inr (.inr rfl)
  | x :: a, y :: b => by
    simp only [cmpB, Go.Lib.compareBytes]
    by_cases h1 : x < y
    · rw [if_pos h1]; exact .inl rfl
    · by_cases h2 : y < x
      · rw [if_neg h1, if_pos h2]; exact .inr (.inr rfl)
      · rw [if_neg h1, if_neg h2]; exact cmpB_vals a b
theorem cmpB_trans : ∀ {a b c : List UInt8}, cmpB a b < 0 → cmpB b c < 0 → cmpB a c < 0
  | [], b, [], h, k => by
    cases b with
    | nil => exact h
    | cons y b => simp [cmpB, Go.Lib.compareBytes] at k
  | [], _, _ :: _, _, _ => by simp [cmpB, Go.Lib.compareBytes]
  | _ :: _, [], _, h, _ => by simp [cmpB, Go.Lib.compareBytes] at h
  | _ :: _, _ :: _, [], _, k => by simp [cmpB, Go.Lib.compareBytes] at k
  | x :: a, y :: b, z :: c, h, k => by
    simp only [cmpB, Go.Lib.compareBytes] at h k ⊢
    simp only [UInt8.lt_iff_toNat_lt] at h k ⊢
    by_cases h1 : x.toNat < y.toNat
    · by_cases k1 : y.toNat < z.toNat
      · rw [if_pos (by omega)]; decide
      · by_cases k2 : z.toNat < y.toNat
        · rw [if_neg k1, if_pos k2] at k; exact absurd k (by decide)
        · rw [if_pos (by omega)]; decide
    · by_cases h2 : y.toNat < x.toNat
      · rw [if_neg h1, if_pos h2] at h; exact absurd h (by decide)
      · rw [if_neg h1, if_neg h2] at h
        by_cases k1 : y.toNat < z.toNat
        · rw [if_pos (by omega)]; decide
        · by_cases k2 : z.toNat < y.toNat
          · rw [if_neg k1, if_pos k2] at k; exact absurd k (by decide)
          · rw [if_neg k1, if_neg k2] at k
            rw [if_neg (by omega), if_neg (by omega)]
            exact cmpB_trans h k
/-- less, as the strings' '<' has it -/
theorem cmpB_lt : ∀ {a b : List UInt8}, cmpB a b < 0 ↔ a < b
  | [], [] => by simp [cmpB, Go.Lib.compareBytes]
  | [], _ :: _ => by simp [cmpB, Go.Lib.compareBytes]
  | _ :: _, [] => by simp [cmpB, Go.Lib.compareBytes]
  | x :: a, y :: b => by
    rw [List.cons_lt_cons_iff, ← cmpB_lt (a := a) (b := b)]
    simp only [cmpB, Go.Lib.compareBytes]
    by_cases h1 : x < y
    · rw [if_pos h1]; simp [h1]
    · by_cases h2 : y < x
      · have hne : x ≠ y := by rintro rfl; exact h1 h2
        rw [if_neg h1, if_pos h2]; simp [h1, hne]
      · rw [if_neg h1, if_neg h2]
        have := u8_tri h1 h2
        subst this
        simp [h1]
section
variable {P : Program} {σ : World} {n : Nat} {Q : Post} {K : Env} {D M : List Asn} {m : Option (List Asn × List Asn)} {ops : Array Oper} {rest : List Oper} {d : Nat} {ty : TypeId} {pos : String} {aft : Array Edge}
/-- a function without a text -/
def IsX (P : Program) (f : FuncId) (e : Array Value → Sem Value) : Prop := ∀ args w, (callFunc f args).run P w = ((e args).run P w).andThen fun v w' => .ok (.value v) w'
theorem IsX.of {P : Program} {f : FuncId} {fn : Func} {e : Array Value → Sem Value} (hf : P.funcs[f]? = some fn) (hname : (fn.name == "runtime.NumGoroutine") = false) (hb : fn.body.isNone = true) (hn : Extern.findNext fn = none) (he : Extern.find fn = some e) : IsX P f e :=
  fun args w => run_callFunc_extern hf hname hb hn he args w
theorem L.callX {f : FuncId} {e : Array Value → Sem Value} {xs : List Operand} {ats : Array TypeId} {args : List Value} {v : Value} (hX : IsX P f e) (hd : Nat.blt d n = true) (hx : evs K xs args) (hr : ∀ w, Sat σ D M w → (e args.toArray).run P w = .ok v w)
    (next : TL m P σ n ops Q rest ((d, v) :: K) D M) : TL m P σ n ops Q (⟨some d, .call { callee := .value (.func f), args := xs.toArray, argTypes := ats }, ty, pos, aft, none⟩ :: rest) K D M :=
  L.quiet hd (fun a w s ss => by
    have h1 := hX args.toArray w
    have h2 : xs.map a.eval = args := s.evals hx
    rw [hr w ss] at h1
    simp only [execOp, resolve, Deferred.ofValue, Act.eval, bind, pure, Sem.bind, invoke, List.map_toArray, h2, Array.empty_append, Array.append_empty]
    exact h1) next
theorem run_loadB {w : World} : ∀ (l : List UInt8) (a : Addr) (acc : ByteArray), (∀ j x, l[j]? = some x → w.cell? (a.add j) = some (Y x)) →
    (Extern.Bytes.loadBytes a l.length acc).run P w = .ok ⟨acc.data ++ l.toArray⟩ w
  | [], a, acc, _ => by simp [Extern.Bytes.loadBytes]
  | x :: l, a, acc, h => by
    have h0 : w.cell? a = some (.int .u8 x.toNat) := by
      have := h 0 x rfl
      simpa [Addr.add, Y] using this
    have ih := run_loadB l (a.add 1) (acc.push x) (fun j y hy => by
      have := h (j + 1) y (by simpa using hy)
      have e : (a.add 1).add j = a.add (j + 1) := by
        unfold Addr.add
        by_cases hj : j = 0
        · subst hj; simp
        · simp [hj]; omega
      rw [e]; exact this)
    simp only [List.length_cons, Extern.Bytes.loadBytes, Sem.run_bind, run_load, h0, Result.andThen]
    have e2 : ((x.toNat : Int).toNat).toUInt8 = x := by simp
    rw [e2, ih]
    congr 1
    apply ByteArray.ext
    simp [ByteArray.push]
theorem run_bytesOf {w : World} {a : Option Addr} {len cap : Nat} {l : List UInt8} (ss : Sat σ D M w) (hm : rsl 1 a len cap (l.map yr) ∈ D) : (Extern.Bytes.bytesOf (.slice a len cap)).run P w = .ok ⟨l.toArray⟩ w := by
  obtain ⟨y', l', q1, q2, q3, q4⟩ := ss.fact hm
  rw [List.length_map] at q1
  cases a with
  | none =>
    have : l = [] := by
      rcases q4 with e | ⟨b, o, c, t, m, e, _⟩
      · simpa using e
      · cases e
    subst this
    rfl
  | some p =>
    have := run_loadB (P := P) (w := w) l p .empty (fun j x e => by
      rcases q4 with e' | ⟨b, o, c, t, m, e1, e2, e3⟩
      · have : l = [] := by simpa using e'
        subst this; simp at e
      · injection e1 with e1; subst e1
        rw [add_lit, cell_of (l' _ _ e2)]
        have := e3 j 0 (yr x) (Y x) (by rw [List.getElem?_map, e]; rfl) rfl
        simpa using this)
    rw [q1] at this
    show (Extern.Bytes.loadBytes p len .empty).run P w = _
    rw [this]; simp
theorem L.cmpSl {f : FuncId} {x y : Operand} {ats : Array TypeId} {a b : Option Addr} {la ca lb cb : Nat} {p q : List UInt8} (hX : IsX P f Extern.BytealgCompare.compare) (hd : Nat.blt d n = true) (hx : evs K [x, y] [.slice a la ca, .slice b lb cb]) (h1 : rsl 1 a la ca (p.map yr) ∈ D) (h2 : rsl 1 b lb cb (q.map yr) ∈ D)
    (next : TL m P σ n ops Q rest ((d, .int .i64 (cmpB p q)) :: K) D M) : TL m P σ n ops Q (⟨some d, .call { callee := .value (.func f), args := [x, y].toArray, argTypes := ats }, ty, pos, aft, none⟩ :: rest) K D M :=
  L.callX hX hd hx (fun w ss => by
    show (do Pure.pure (goInt (Extern.BytealgCompare.cmp (← Extern.Bytes.bytesOf (.slice a la ca)) (← Extern.Bytes.bytesOf (.slice b lb cb)))) : Sem Value).run P w = _
    simp only [Sem.run_bind, Sem.run_pure, run_bytesOf ss h1, run_bytesOf ss h2, Result.andThen]
    rw [Go.Lib.cmp_eq]
    rfl) next
theorem L.cmpStr {f : FuncId} {x y : Operand} {ats : Array TypeId} {p q : List UInt8} (hX : IsX P f Extern.BytealgCompare.compare) (hd : Nat.blt d n = true) (hx : evs K [x, y] [S p, S q])
    (next : TL m P σ n ops Q rest ((d, .int .i64 (cmpB p q)) :: K) D M) : TL m P σ n ops Q (⟨some d, .call { callee := .value (.func f), args := [x, y].toArray, argTypes := ats }, ty, pos, aft, none⟩ :: rest) K D M :=
  L.callX hX hd hx (fun w ss => Go.Lib.run_compareString (P := P) ⟨p.toArray⟩ ⟨q.toArray⟩ w) next
/-- copy of a string's bytes into an own block -/
theorem L.copyStr {td ts e tb : TypeId} {x y : Operand} {b o dl dc k : Nat} {cs cs' : List Value} {l : List UInt8} {M' : List Asn} (hd : Nat.blt d n = true) (hU : P.underlying td = some (.slice e)) (hz : Sz P e 1) (hx : ev K x = some (.slice (some ⟨b, o, none⟩) dl dc)) (hy : ev K y = some (S l))
    (hk : Nat.min l.length dl = k) (hu : Upd (cl b tb cs) (cl b tb cs') M M') (hs : SetAt cs o ((l.take k).map Y) cs')
    (next : TL none P σ n ops Q rest ((d, .int .i64 k) :: K) D M') : TL none P σ n ops Q (⟨some d, .call { callee := .builtin .copy, args := #[x, y], argTypes := #[td, ts] }, ty, pos, aft, none⟩ :: rest) K D M :=
  L.val hd (fun aa w s ss => by
    obtain ⟨O, e1, e2⟩ := hu
    have hb := (ss.ent e1).block (.head _)
    have e3 := hz w
    have h2 := run_storeCells_at P b o tb ((l.take k).map Y) 0 cs.toArray w hb (by simpa using hs.1) (fun u hu => by obtain ⟨z, _, rfl⟩ := List.mem_map.1 hu; rfl)
    simp only [Nat.add_zero] at h2
    refine ⟨_, ?_, ss.setB (o' := .cells cs'.toArray tb (0, 0)) ⟨O, e1, e2⟩⟩
    have ex : aa.eval x = _ := s.eval hx
    have ey : aa.eval y = _ := s.eval hy
    have h3 : Sem.run P (storeCells ⟨b, o, none⟩ ((l.take k).map Y)) w = .ok () (setB w b (.cells cs'.toArray tb (0, 0))) := by
      rw [show (storeCells ⟨b, o, none⟩ ((l.take k).map Y)) = storeCells ⟨b, o, none⟩ ((l.take k).map Y) 0 from rfl, h2, setRow_setB hb, hs.2]
    have h4 : (Builtin.firstCells 1 k (S l)).run P w = .ok ((l.take k).map Y).toArray w := by
      show Sem.run P (Pure.pure _) w = _
      rw [Sem.run_pure]
      congr 1
      apply Array.toList_inj.1
      simp only [ByteArray.data_extract, List.map_take, Array.toList_map, Array.toList_extract]
      simp [Y, Function.comp_def, ← List.map_take]
    have h5 : (Builtin.lenOf (S l)).run P w = .ok l.length w := by
      show Sem.run P (Pure.pure _) w = _
      rw [Sem.run_pure]; rfl
    simp [execOp, resolve, invoke, builtin, ex, ey, Builtin.copy_, run_underlying hU, h5, hk, e3, h4, h3, goInt, -List.map_take]) next
end
end Cv
namespace Cv
open Go
theorem bless_iff : ∀ {a b : List UInt8}, bless a b = true ↔ cmpB a b < 0
  | [], [] => by simp [bless, Op.bytesLess, cmpB, Go.Lib.compareBytes]
  | [], _ :: _ => by simp [bless, Op.bytesLess, cmpB, Go.Lib.compareBytes]
  | _ :: _, [] => by simp [bless, Op.bytesLess, cmpB, Go.Lib.compareBytes]
  | x :: a, y :: b => by
    have ih := bless_iff (a := a) (b := b)
    unfold bless at ih ⊢
    unfold Op.bytesLess
    simp only [cmpB, Go.Lib.compareBytes]
    by_cases h1 : x < y
    · simp [h1]
    · by_cases h2 : y < x
      · have hne : x ≠ y := by rintro rfl; exact h1 h2
        simp [h1, h2, hne]
      · have := u8_tri h1 h2
        subst this
        simp [h1, ih, cmpB]
end Cv
namespace Cv
open Go
theorem T.retTA {P : Program} {σ : World} {n : Nat} {K : Env} {D M : List Asn} {fn : Func} {t u k : Nat} {tt : TypeId} {b off : Nat} {R : Value → List Asn → List Asn → Prop} {D0 M0 D' M' : List Asn} {vs : List Value} {v : Value} (hr : fn.results = #[.tmp u, .cell t tt]) (hS : Ag P tt k) (hx : get K t = some (.pointer (some ⟨b, off, none⟩))) (hc : CellsN σ D M b off k vs) (hv : get K u = some v)
    (hR : R (.tuple #[v, .agg vs.toArray]) D' M') (hD : SubD (D' ++ D0) D) (hM : Ent M (M' ++ M0)) : T σ n (bodyPost P fn (RetPost σ R D0 M0) .ret) K D M :=
  T.ret0 (.inl rfl) (fun a w s ss => by
    obtain ⟨hl, hc⟩ := hc
    obtain ⟨c, t', m, hb, hv'⟩ := hc w ss
    have h1 : (loadCells ⟨b, off, none⟩ vs.length).run P w = .ok vs.toArray w := run_loadCells_list (P := P) w _ vs (fun j v e => by rw [add_lit, cell_of hb]; exact hv' j v e)
    have h2 := (hS w).1
    have h4 := (hS w).2
    have h3 := s.val t _ hx
    have h5 := s.val u _ hv
    rw [Array.getD_eq_getD_getElem?] at h3 h5
    subst hl
    simp [results, hr, h3, h5, asAddr, loadVar, h2, h4, h1, Sem.run]) hR hD hM
end Cv
namespace Cv
open Go
/-! ## keys: strings, and arrays of bytes -/
theorem bytes_beq (a b : List UInt8) : ((ByteArray.mk a.toArray) == (ByteArray.mk b.toArray)) = decide (a = b) := by
  show (a.toArray == b.toArray) = decide (a = b)
  by_cases h : a = b
  · subst h; simp
  · have hne : a.toArray ≠ b.toArray := fun e => h (by injection e)
    rw [decide_eq_false h]
    exact beq_eq_false_iff_ne.2 hne
theorem keyT_str {P : Program} {t : TypeId} (ht : P.underlying t = some .string) : KeyT P t S where
  check e k w := by rw [show (10000 : Nat) = 9999 + 1 from rfl, Instr.checkKey]; simp [run_underlying ht, S]
  find venc k es l w h := by
    have key : ∀ (es : List MapEntry) (l : List (List UInt8 × _)) (i : Nat), es.map (fun e => (e.key, e.val)) = l.map (fun p => (S p.1, venc p.2)) →
        Instr.findNow .string (S k) es i = some ((lookI l k i).map fun p => (p.1, venc p.2)) := by
      intro es
      induction es with
      | nil => intro l i h; cases l with
        | nil => rfl
        | cons p l => simp at h
      | cons e es ih => intro l i h; cases l with
        | nil => simp at h
        | cons p l =>
          obtain ⟨k', v⟩ := p
          simp only [List.map_cons, List.cons.injEq, Prod.mk.injEq] at h
          obtain ⟨⟨h1, h2⟩, h3⟩ := h
          simp only [Instr.findNow, h1, S, Instr.sameNow, lookI, bytes_beq]
          by_cases e1 : k' = k
          · simp [e1, h2]
          · have : decide (k = k') = false := by simp; exact fun h => e1 h.symm
            simp only [this, if_neg e1]
            exact ih l (i + 1) h3
    simp [Instr.findKey, run_underlying ht, key es l 0 h]
  same k := by rw [show (10000 : Nat) = 9999 + 1 from rfl]; simp [Instr.sameBits, S, bytes_beq]
end Cv
namespace Cv
open Go
/-! ## sorting in place, stably: what is kept -/
section
variable {α : Type} [Inhabited α]
/-- ys has as many elements as xs, and none but those of xs -/
structure SM (xs ys : List α) : Prop where
  len : ys.length = xs.length
  sub : ∀ y ∈ ys, y ∈ xs
  perm : ys.Perm xs
theorem SM.refl (xs : List α) : SM xs xs := ⟨rfl, fun _ h => h, .refl _⟩
theorem SM.trans {xs ys zs : List α} (h : SM xs ys) (k : SM ys zs) : SM xs zs := ⟨k.1.trans h.1, fun z hz => h.2 z (k.2 z hz), k.3.trans h.3⟩
/-- two places are changed with each other -/
def sw (zs : List α) (i j : Nat) : List α := (zs.set i (gd zs j)).set j (gd zs i)
theorem gd_mem {zs : List α} {i : Nat} (h : i < zs.length) : gd zs i ∈ zs := List.mem_of_getElem? (gd_get h)
theorem sw_perm {zs : List α} {i j : Nat} (hi : i < zs.length) (hj : j < zs.length) : (sw zs i j).Perm zs := by
  have h := Array.swap_perm (xs := zs.toArray) (i := i) (j := j) (by simpa using hi) (by simpa using hj)
  have h2 := Array.perm_iff_toList_perm.1 h
  have e1 : gd zs i = zs[i] := by unfold gd; simp [hi]
  have e2 : gd zs j = zs[j] := by unfold gd; simp [hj]
  rw [sw, e1, e2]
  simpa [Array.swap] using h2
theorem sw_sm {zs : List α} {i j : Nat} (hi : i < zs.length) (hj : j < zs.length) : SM zs (sw zs i j) := ⟨by simp [sw], fun y hy => by
  rcases List.mem_or_eq_of_mem_set hy with h | h
  · rcases List.mem_or_eq_of_mem_set h with h | h
    · exact h
    · subst h; exact gd_mem hj
  · subst h; exact gd_mem hi, sw_perm hi hj⟩
theorem gd_sw {zs : List α} {i j k : Nat} (hi : i < zs.length) (hj : j < zs.length) : gd (sw zs i j) k = if k = j then gd zs i else if k = i then gd zs j else gd zs k := by
  unfold sw gd
  simp only [List.getD_eq_getElem?_getD, List.getElem?_set, List.length_set]
  by_cases h1 : k = j
  · subst h1; simp [hj]
  · rw [if_neg h1, if_neg (fun e => h1 e.symm)]
    by_cases h2 : k = i
    · subst h2; simp [hi]
    · rw [if_neg h2, if_neg (fun e => h2 e.symm)]
/-- by cf, none comes ahead of the one before it -/
def Srt (cf : α → α → Int) (xs : List α) : Prop := ∀ p q, p < q → q < xs.length → ¬ cf (gd xs q) (gd xs p) < 0
/-- an order of texts -/
structure Cmp (cf : α → α → Int) : Prop where
  anti : ∀ x y, cf y x = - cf x y
  trans : ∀ x y z, cf x y ≤ 0 → cf y z ≤ 0 → cf x z ≤ 0 ∧ (cf x z = 0 → cf x y = 0 ∧ cf y z = 0)
def Rt (cf : α → α → Int) (tag : α → Nat) (x y : α) : Prop := cf x y < 0 ∨ (cf x y = 0 ∧ tag x < tag y)
theorem Rt.trans {cf : α → α → Int} {tag : α → Nat} (h : Cmp cf) {x y z : α} (a : Rt cf tag x y) (b : Rt cf tag y z) : Rt cf tag x z := by
  have t := h.trans x y z (by rcases a with a | a <;> omega) (by rcases b with b | b <;> omega)
  unfold Rt at *
  by_cases e : cf x z = 0
  · have := t.2 e; right; omega
  · left; omega
def Pw (R : α → α → Prop) (zs : List α) (n : Nat) : Prop := ∀ p q, p < q → q < n → R (gd zs p) (gd zs q)
def PwBut (R : α → α → Prop) (zs : List α) (i j : Nat) : Prop := (∀ p q, p < q → q ≤ i → p ≠ j → q ≠ j → R (gd zs p) (gd zs q)) ∧ ∀ q, j < q → q ≤ i → R (gd zs j) (gd zs q)
/-- the state of an insertion sort from 0 on: i elements are in order; the rest is as it was -/
structure InsO (cf : α → α → Int) (xs zs : List α) (i : Nat) : Prop where
  sm : SM xs zs
  same : Srt cf xs → zs = xs
  ord : ∀ tag : α → Nat, (∀ p q, p < q → q < xs.length → tag (gd xs p) < tag (gd xs q)) → Pw (Rt cf tag) zs i ∧ (∀ p q, p < q → q < zs.length → (i ≤ p ∨ (p < i ∧ i ≤ q)) → tag (gd zs p) < tag (gd zs q))
structure InsJ (cf : α → α → Int) (xs zs : List α) (i j : Nat) : Prop where
  sm : SM xs zs
  same : Srt cf xs → zs = xs ∧ j = i
  ord : ∀ tag : α → Nat, (∀ p q, p < q → q < xs.length → tag (gd xs p) < tag (gd xs q)) → PwBut (Rt cf tag) zs i j ∧ (∀ p, p ≤ i → p ≠ j → tag (gd zs p) < tag (gd zs j)) ∧ (∀ p q, p < q → q < zs.length → (i < p ∨ (p ≤ i ∧ i < q)) → tag (gd zs p) < tag (gd zs q))
theorem InsO.zero {cf : α → α → Int} (xs : List α) : InsO cf xs xs 1 := ⟨.refl _, fun _ => rfl, fun tag h => ⟨fun p q h1 h2 => by omega, fun p q h1 h2 _ => h p q h1 h2⟩⟩
theorem InsO.start {cf : α → α → Int} {xs zs : List α} {i : Nat} (h : InsO cf xs zs i) (hi : i < zs.length) : InsJ cf xs zs i i := ⟨h.sm, fun q => ⟨h.same q, rfl⟩, fun tag ht => by
  obtain ⟨h1, h2⟩ := h.ord tag ht
  exact ⟨⟨fun p q a b c d => h1 p q a (by omega), fun q a b => by omega⟩, fun p a b => h2 p i (by omega) hi (.inr ⟨by omega, Nat.le_refl _⟩), fun p q a b c => h2 p q a b (by omega)⟩⟩
theorem InsJ.swap {cf : α → α → Int} {xs zs : List α} {i j : Nat} (h : InsJ cf xs zs i j) (hi : i < zs.length) (hj : j ≤ i) (h0 : 0 < j) (hl : cf (gd zs j) (gd zs (j - 1)) < 0) : InsJ cf xs (sw zs j (j - 1)) i (j - 1) := by
  refine ⟨h.sm.trans (sw_sm (by omega) (by omega)), fun q => ?_, fun tag ht => ?_⟩
  · obtain ⟨e, rfl⟩ := h.same q
    subst e
    exact absurd hl (q (j - 1) j (by omega) (by omega))
  · obtain ⟨⟨h1, h2⟩, h3, h4⟩ := h.ord tag ht
    have g : ∀ k, gd (sw zs j (j - 1)) k = if k = j - 1 then gd zs j else if k = j then gd zs (j - 1) else gd zs k := fun k => gd_sw (by omega) (by omega)
    have len : (sw zs j (j - 1)).length = zs.length := by simp [sw]
    refine ⟨⟨fun p q a b c d => ?_, fun q a b => ?_⟩, fun p a b => ?_, fun p q a b c => ?_⟩
    · rw [g p, g q, if_neg c, if_neg d]
      by_cases e1 : p = j
      · rw [if_pos e1, if_neg (by omega)]; exact h1 _ _ (by omega) b (by omega) (by omega)
      · rw [if_neg e1]
        by_cases e2 : q = j
        · rw [if_pos e2]; exact h1 _ _ (by omega) (by omega) e1 (by omega)
        · rw [if_neg e2]; exact h1 _ _ a b e1 e2
    · rw [g (j - 1), g q, if_pos rfl, if_neg (by omega)]
      by_cases e2 : q = j
      · rw [if_pos e2]; exact .inl hl
      · rw [if_neg e2]; exact h2 _ (by omega) b
    · rw [g p, g (j - 1), if_pos rfl, if_neg b]
      by_cases e1 : p = j
      · rw [if_pos e1]; exact h3 _ (by omega) (by omega)
      · rw [if_neg e1]; exact h3 _ a e1
    · rw [len] at b
      rw [g p, g q]
      by_cases e0 : i < p
      · rw [if_neg (by omega), if_neg (by omega), if_neg (by omega), if_neg (by omega)]; exact h4 _ _ a b (.inl e0)
      · have hq : i < q := by omega
        rw [if_neg (show ¬ q = j - 1 by omega), if_neg (show ¬ q = j by omega)]
        split
        · exact h4 _ _ (by omega) b (.inr ⟨by omega, hq⟩)
        · split
          · exact h4 _ _ (by omega) b (.inr ⟨by omega, hq⟩)
          · exact h4 _ _ a b (.inr ⟨by omega, hq⟩)
theorem InsJ.stop {cf : α → α → Int} {xs zs : List α} {i j : Nat} (hC : Cmp cf) (h : InsJ cf xs zs i j) (hj : j ≤ i) (hi : i < zs.length) (hl : 0 < j → ¬ cf (gd zs j) (gd zs (j - 1)) < 0) : InsO cf xs zs (i + 1) := by
  refine ⟨h.sm, fun q => (h.same q).1, fun tag ht => ?_⟩
  obtain ⟨⟨h1, h2⟩, h3, h4⟩ := h.ord tag ht
  refine ⟨fun p q a b => ?_, fun p q a b c => h4 p q a b (by omega)⟩
  have before : ∀ p, p < j → Rt cf tag (gd zs p) (gd zs j) := by
    intro p hp
    have last : Rt cf tag (gd zs (j - 1)) (gd zs j) := by
      have e1 := hl (by omega)
      have e2 := hC.anti (gd zs (j - 1)) (gd zs j)
      have e3 := h3 (j - 1) (by omega) (by omega)
      unfold Rt
      by_cases e : cf (gd zs (j - 1)) (gd zs j) = 0
      · right; exact ⟨e, e3⟩
      · left; omega
    by_cases e : p = j - 1
    · subst e; exact last
    · exact (h1 p (j - 1) (by omega) (by omega) (by omega) (by omega)).trans hC last
  by_cases e1 : p = j
  · subst e1; exact h2 q a (by omega)
  · by_cases e2 : q = j
    · subst e2; exact before p a
    · exact h1 p q a (by omega) e1 e2
/-- what a sort keeps -/
structure Kp (cf : α → α → Int) (xs ys : List α) : Prop where
  sm : SM xs ys
  same : Srt cf xs → ys = xs
theorem Kp.refl {cf : α → α → Int} (xs : List α) : Kp cf xs xs := ⟨.refl _, fun _ => rfl⟩
theorem Kp.trans {cf : α → α → Int} {xs ys zs : List α} (h : Kp cf xs ys) (k : Kp cf ys zs) : Kp cf xs zs := ⟨h.sm.trans k.sm, fun q => by
  have e := h.same q
  subst e
  exact k.same q⟩
theorem Kp.of {cf : α → α → Int} {xs ys : List α} (h : SM xs ys) (hn : ¬ Srt cf xs) : Kp cf xs ys := ⟨h, fun q => absurd q hn⟩
/-- an insertion sort of a part -/
structure InsP (cf : α → α → Int) (xs zs : List α) (i j : Nat) : Prop where
  sm : SM xs zs
  same : Srt cf xs → zs = xs ∧ j = i
theorem InsP.zero {cf : α → α → Int} {xs zs : List α} {i : Nat} (h : Kp cf xs zs) : InsP cf xs zs i i := ⟨h.sm, fun q => ⟨h.same q, rfl⟩⟩
theorem InsP.swap {cf : α → α → Int} {xs zs : List α} {i j : Nat} (h : InsP cf xs zs i j) (hi : j < zs.length) (h0 : 0 < j) (hl : cf (gd zs j) (gd zs (j - 1)) < 0) : InsP cf xs (sw zs j (j - 1)) i (j - 1) := ⟨h.sm.trans (sw_sm (by omega) (by omega)), fun q => by
  obtain ⟨e, rfl⟩ := h.same q
  subst e
  exact absurd hl (q (j - 1) j (by omega) (by omega))⟩
theorem InsP.end' {cf : α → α → Int} {xs zs : List α} {i j : Nat} (h : InsP cf xs zs i j) : Kp cf xs zs := ⟨h.sm, fun q => (h.same q).1⟩
end
end Cv
namespace Cv
open Go
section
variable {P : Program} {σ : World} {n : Nat} {Q : Post} {K : Env} {D M N : List Asn} {ops : Array Oper} {rest : List Oper} {ty : TypeId} {pos : String} {aft : Array Edge}
/-- a part of a row is set -/
theorem sat_ownPart {w : World} {sz b o len cap i j k : Nat} {e : TypeId} {rows : List (List Value)} {r vs r' : List Value} (ss : Sat σ D (own sz e (some ⟨b, o, none⟩) len cap rows :: N) w) (hr : rows[i]? = some r) (hk : vs.length = k) (hs : SetAt r j vs r') :
    ∃ cs cs' : List Value, w.heap[b]? = some (.cells cs.toArray e (0, 0)) ∧ SetAt cs (o + i * sz + j) vs cs' ∧ Sat σ D (own sz e (some ⟨b, o, none⟩) len cap (rows.set i r') :: N) (setB w b (.cells cs'.toArray e (0, 0))) := by
  obtain ⟨y, ly, H⟩ := ss.own (.head _)
  obtain ⟨e1, e2, e3, e4⟩ := H
  have hi : i < len := by rw [← e1]; exact (List.getElem?_eq_some_iff.1 hr).1
  have hrl : r.length = sz := e3 r (List.mem_of_getElem? hr)
  obtain ⟨hs1, hs2⟩ := hs
  have hrl' : r'.length = sz := by rw [hs2]; simp; omega
  obtain ⟨cs, cs', hb, hset, hsat⟩ := sat_ownSet (i := i) (r := r') ss hrl' hi
  refine ⟨cs, cs', hb, ?_, hsat⟩
  obtain ⟨q1, q2⟩ := hset
  rcases e4 with ⟨e4, _⟩ | ⟨b', o', cs0, e4, e5, e6, e7⟩
  · cases e4
  injection e4 with e4; injection e4 with e8 e9
  subst e8; subst e9
  have hb' := ly _ _ e5
  have hcs : cs0 = cs.toArray := by
    have : w.heap[b]? = some (.cells cs0 e (0, 0)) := hb'
    rw [hb] at this
    injection this with this
    injection this with this
    exact this.symm
  subst hcs
  have at' : ∀ m, m < sz → cs[o + i * sz + m]? = r[m]? := fun m hm => by
    have : r[m]? = some r[m] := List.getElem?_eq_getElem (by omega)
    rw [this]
    have := e7 i m r r[m] hr this
    simpa using this
  refine ⟨by omega, ?_⟩
  rw [q2, hs2]
  apply List.ext_getElem?
  intro m
  have hL : (List.take j r ++ vs ++ List.drop (j + vs.length) r).length = sz := by simp; omega
  rw [hL]
  have hlen : o + i * sz + sz ≤ cs.length := by rw [hrl'] at q1; exact q1
  have g1 : ((List.take (o + i * sz) cs ++ (List.take j r ++ vs ++ List.drop (j + vs.length) r)) ++ List.drop (o + i * sz + sz) cs)[m]? = if m < o + i * sz then cs[m]? else if m < o + i * sz + sz then (if m - (o + i * sz) < j then r[m - (o + i * sz)]? else if m - (o + i * sz) < j + vs.length then vs[m - (o + i * sz) - j]? else r[m - (o + i * sz)]?) else cs[m]? := by
    by_cases h1 : m < o + i * sz
    · rw [if_pos h1, List.append_assoc, List.getElem?_append_left (by simp; omega), List.getElem?_take_of_lt h1]
    · rw [if_neg h1]
      by_cases h2 : m < o + i * sz + sz
      · rw [if_pos h2, List.getElem?_append_left (by rw [List.length_append, hL, List.length_take]; omega), List.getElem?_append_right (by simp; omega)]
        rw [show m - (List.take (o + i * sz) cs).length = m - (o + i * sz) by rw [List.length_take]; omega]
        by_cases h3 : m - (o + i * sz) < j
        · rw [if_pos h3, List.append_assoc, List.getElem?_append_left (by simp; omega), List.getElem?_take_of_lt h3]
        · rw [if_neg h3]
          by_cases h4 : m - (o + i * sz) < j + vs.length
          · rw [if_pos h4, List.getElem?_append_left (by simp; omega), List.getElem?_append_right (by simp; omega)]
            congr 1; simp; omega
          · rw [if_neg h4, List.getElem?_append_right (by simp; omega), List.getElem?_drop]
            congr 1; simp; omega
      · rw [if_neg h2, List.getElem?_append_right (by rw [List.length_append, hL, List.length_take]; omega), List.getElem?_drop]
        congr 1; rw [List.length_append, hL, List.length_take]; omega
  have g2 : (List.take (o + i * sz + j) cs ++ vs ++ List.drop (o + i * sz + j + vs.length) cs)[m]? = if m < o + i * sz + j then cs[m]? else if m < o + i * sz + j + vs.length then vs[m - (o + i * sz + j)]? else cs[m]? := by
    by_cases h1 : m < o + i * sz + j
    · rw [if_pos h1, List.append_assoc, List.getElem?_append_left (by simp; omega), List.getElem?_take_of_lt h1]
    · rw [if_neg h1]
      by_cases h2 : m < o + i * sz + j + vs.length
      · rw [if_pos h2, List.getElem?_append_left (by simp; omega), List.getElem?_append_right (by simp; omega)]
        congr 1; simp; omega
      · rw [if_neg h2, List.getElem?_append_right (by simp; omega), List.getElem?_drop]
        congr 1; simp; omega
  rw [g1, g2]
  by_cases h1 : m < o + i * sz
  · rw [if_pos h1, if_pos (by omega)]
  · rw [if_neg h1]
    by_cases h2 : m < o + i * sz + sz
    · rw [if_pos h2]
      have ha := at' (m - (o + i * sz)) (by omega)
      rw [show o + i * sz + (m - (o + i * sz)) = m by omega] at ha
      by_cases h3 : m - (o + i * sz) < j
      · rw [if_pos h3, if_pos (by omega), ha]
      · rw [if_neg h3, if_neg (show ¬ m < o + i * sz + j by omega)]
        by_cases h4 : m - (o + i * sz) < j + vs.length
        · rw [if_pos h4, if_pos (show m < o + i * sz + j + vs.length by omega)]; congr 1; omega
        · rw [if_neg h4, if_neg (show ¬ m < o + i * sz + j + vs.length by omega), ha]
    · rw [if_neg h2, if_neg (by omega), if_neg (by omega)]
theorem L.storeF {t e : TypeId} {x y : Operand} {b o len cap sz : Nat} (i j : Nat) {rows : List (List Value)} {r r' : List Value} {v : Value} {off : Nat} (hS : Sc P t) (hx : ev K x = some (.pointer (some ⟨b, off, none⟩))) (ho : off = o + i * sz + j) (hy : ev K y = some v) (h1 : v.oneCell' = true)
    (hM : Pull (own sz e (some ⟨b, o, none⟩) len cap rows) M N) (hr : rows[i]? = some r) (hs : SetAt r j [v] r') (next : TL none P σ n ops Q rest K D (own sz e (some ⟨b, o, none⟩) len cap (rows.set i r') :: N)) : TL none P σ n ops Q (⟨none, .store t x y, ty, pos, aft, none⟩ :: rest) K D M :=
  L.eff (fun a w s ss => by
    subst ho
    obtain ⟨cs, cs', hb, hset, hs⟩ := sat_ownPart (ss.ent hM) hr rfl hs
    have hv : v.cells = [v].toArray := by cases v <;> first | rfl | cases h1
    have hr := run_storeAt (P := P) (t := t) (fun w => (hS w).2) hv rfl (by simpa using h1) hb hset
    refine ⟨_, ?_, hs⟩
    have ex : a.eval x = _ := s.eval hx
    have ey : a.eval y = _ := s.eval hy
    simp only [execOp, ex, ey]
    simp [hr]) next
theorem L.storeFA {t e : TypeId} {x y : Operand} {b o len cap sz k : Nat} (i j : Nat) {rows : List (List Value)} {r r' vs : List Value} {off : Nat} (hS : Ag P t k) (hx : ev K x = some (.pointer (some ⟨b, off, none⟩))) (ho : off = o + i * sz + j) (hy : ev K y = some (.agg vs.toArray)) (hk : vs.length = k) (h1 : ∀ u ∈ vs, u.oneCell' = true)
    (hM : Pull (own sz e (some ⟨b, o, none⟩) len cap rows) M N) (hr : rows[i]? = some r) (hs : SetAt r j vs r') (next : TL none P σ n ops Q rest K D (own sz e (some ⟨b, o, none⟩) len cap (rows.set i r') :: N)) : TL none P σ n ops Q (⟨none, .store t x y, ty, pos, aft, none⟩ :: rest) K D M :=
  L.eff (fun a w s ss => by
    subst ho
    obtain ⟨cs, cs', hb, hset, hs⟩ := sat_ownPart (ss.ent hM) hr hk hs
    have hr := run_storeAt (P := P) (t := t) (fun w => (hS w).2) (v := .agg vs.toArray) rfl hk h1 hb hset
    refine ⟨_, ?_, hs⟩
    have ex : a.eval x = _ := s.eval hx
    have ey : a.eval y = _ := s.eval hy
    simp only [execOp, ex, ey]
    simp [hr]) next
end
end Cv
