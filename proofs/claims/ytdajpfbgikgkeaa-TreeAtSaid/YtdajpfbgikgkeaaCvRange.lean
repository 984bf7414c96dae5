/-
  My own library for walks, a text of it (CvRange): separation logic over the kit's Calls; no statement of this seat stands here.
-/
import Derived.Test.YtdajpfbgikgkeaaCvFn
import Derived.Laws.IdiomRangeMap
set_option linter.unusedVariables false
set_option linter.unusedSimpArgs false
set_option linter.unusedSectionVars false
namespace Cv
open Go
/-! ## ranging over a map: in whatever order -/
theorem run_nextG {P : Program} {w : World} {ty : TypeId} {it bm since c0 : Nat} {seen : Array Nat} {es : Array MapEntry} {clock : Nat} (hb : w.heap[bm]? = some (.map es clock)) (hi : w.heap[it]? = some (.mapIter (some bm) since seen c0)) (hold : ∀ x ∈ es.toList, x.born < since) (hsc : since ≤ c0) :
    ((leftOf es seen).toList = [] ∧ (Instr.next (.pointer (some ⟨it, 0, none⟩)) false ty).run P w = .ok (.tuple #[.bool false]) w) ∨
    ∃ e ∈ (leftOf es seen).toList, ∃ k, w.drawn ≤ k ∧ (Instr.next (.pointer (some ⟨it, 0, none⟩)) false ty).run P w = .ok (.tuple #[.bool true, e.key, e.val]) (setB { w with drawn := k } it (.mapIter (some bm) since (seen.push e.born) clock)) := by
  simp only [Instr.next, getObj, Sem.run_bind, Sem.run, hi, hb, Result.andThen, next_test_false seen es since c0 hold hsc, Bool.false_eq_true, if_false]
  unfold leftOf
  have hmem : ∀ x ∈ (Array.filter (fun e => !seen.contains e.born) es).toList, x.born < since := fun x hx => hold x (by simp at hx ⊢; exact hx.1)
  generalize Array.filter (fun e => !seen.contains e.born) es = L at hmem ⊢
  have e1 : L.filter (fun x => decide (x.born < since)) = L := Array.filter_eq_self.2 (fun x hx => by simpa using hmem x (by simpa using hx))
  have e2 : L.filter (fun x => decide (x.born ≥ since)) = #[] := by
    rw [Array.filter_eq_empty_iff]
    intro x hx
    have := hmem x (by simpa using hx)
    simp
    omega
  simp only [e1, e2, Array.append_empty]
  by_cases h0 : L.size = 0
  · left
    have : L = #[] := Array.eq_empty_of_size_eq_zero h0
    subst this
    refine ⟨rfl, ?_⟩
    simp [choose, Sem.run, Question.forced]
  · right
    have hne : L.isEmpty = false := by simp [Array.isEmpty, h0]
    simp only [hne, Bool.false_eq_true, if_false, Array.empty_append, Array.size_map]
    have hch : ∃ (j k : Nat), j < L.size ∧ w.drawn ≤ k ∧ (choose (Question.mapNext L.size)).run P w = .ok j { w with drawn := k } := by
      by_cases hf : L.size ≤ 1
      · exact ⟨0, w.drawn, by omega, Nat.le_refl _, by simp [choose, Sem.run, Question.forced, hf]⟩
      · refine ⟨_, w.drawn + 1, Nat.mod_lt (w.tape w.drawn (Question.mapNext L.size)) (by omega), Nat.le_succ _, ?_⟩
        rw [run_choose_drew]
        simp only [Question.forced, decide_eq_true_eq, hf, if_false, Question.cut]
        rfl
    obtain ⟨j, k, hj, hk, hc⟩ := hch
    refine ⟨L[j], by simp, k, hk, ?_⟩
    have hcand : (L.map some)[j]? = some (some L[j]) := by simp [hj]
    rw [hc]
    simp only [hcand]
    have hs := setB_setObj (P := P) (w := { w with drawn := k }) (b := it) (o := .mapIter (some bm) since seen c0) (o' := .mapIter (some bm) since (seen.push L[j].born) clock) hi (fun _ _ _ => by simp)
    simp only [Sem.run_bind, hs, Result.andThen]
    rfl
section
variable {κ ν : Type} {kenc : κ → Value} {venc : ν → Value}
/-- the keys that have not been handed out -/
def restK (l : List (κ × ν)) (bs : List Nat) (seen : Array Nat) : List κ := ((l.zip bs).filter (fun p => !seen.contains p.2)).map (·.1.1)
structure MI (l : List (κ × ν)) (kenc : κ → Value) (venc : ν → Value) (rest : List κ) (cur : Option κ) where
  es : Array MapEntry
  clock : Nat
  since : Nat
  seen : Array Nat
  last : Nat
  val : es.toList.map (fun e => (e.key, e.val)) = l.map (fun p => (kenc p.1, venc p.2))
  keys : (l.map Prod.fst).Nodup
  borns : (es.toList.map (·.born)).Nodup
  old : ∀ e ∈ es.toList, e.born < since
  sc : since ≤ clock
  sl : since ≤ last
  rest : rest.Perm (restK l (es.toList.map (·.born)) seen)
  now : cur.isSome = true → clock = last
  cur : ∀ k, cur = some k → ∃ e ∈ es.toList, seen.back? = some e.born ∧ ∃ v, (k, v) ∈ l ∧ e.key = kenc k ∧ e.val = venc v
/-- block b is a map with the entries l, block `it` one's place in it: the keys `rest` are still to come, in whatever order; `cur` was the last one -/
def mpi (b it : Nat) (kenc : κ → Value) (venc : ν → Value) (l : List (κ × ν)) (rest : List κ) (cur : Option κ) : Asn := fun z => ∃ x : MI l kenc venc rest cur, Holds [pt it (.mapIter (some b) x.since x.seen x.last), pt b (.map x.es x.clock)] z
theorem restK_nil {l : List (κ × ν)} {bs : List Nat} (h : bs.length = l.length) : restK l bs #[] = l.map Prod.fst := by
  unfold restK
  rw [List.filter_eq_self.2 (fun a _ => by simp)]
  induction l generalizing bs with
  | nil => simp
  | cons p l ih =>
    cases bs with
    | nil => simp at h
    | cons b bs => simp only [List.zip_cons_cons, List.map_cons]; rw [ih (by simpa using h)]
theorem perm_take {α : Type} {g : α → Nat} : ∀ {zs : List α}, (zs.map g).Nodup → ∀ {p : α}, p ∈ zs → zs.Perm (p :: zs.filter (fun q => decide (g q ≠ g p)))
  | [], _, _, h => by cases h
  | z :: zs, hn, p, h => by
    simp only [List.map_cons, List.nodup_cons] at hn
    rcases List.mem_cons.1 h with rfl | h
    · have e : zs.filter (fun q => decide (g q ≠ g p)) = zs := List.filter_eq_self.2 (fun q hq => by
        simp only [ne_eq, decide_not, Bool.not_eq_true', decide_eq_false_iff_not]
        exact fun e => hn.1 (List.mem_map.2 ⟨q, hq, e⟩))
      rw [List.filter_cons_of_neg (by simp), e]
    · have hne : g z ≠ g p := fun e => hn.1 (List.mem_map.2 ⟨p, h, e.symm⟩)
      rw [List.filter_cons_of_pos (by simpa using hne)]
      exact ((perm_take hn.2 h).cons z).trans (List.Perm.swap _ _ _)
theorem zip_mem {l : List (κ × ν)} {es : List MapEntry} (h : es.map (fun e => (e.key, e.val)) = l.map (fun p => (kenc p.1, venc p.2))) {e : MapEntry} (he : e ∈ es) : ∃ p ∈ l, e.key = kenc p.1 ∧ e.val = venc p.2 ∧ (p, e.born) ∈ l.zip (es.map (·.born)) := by
  induction es generalizing l with
  | nil => cases he
  | cons x es ih =>
    cases l with
    | nil => simp at h
    | cons p l =>
      simp only [List.map_cons, List.cons.injEq, Prod.mk.injEq] at h
      rcases List.mem_cons.1 he with rfl | he
      · exact ⟨p, by simp, h.1.1, h.1.2, by simp⟩
      · obtain ⟨q, hq, h1, h2, h3⟩ := ih h.2 he
        exact ⟨q, by simp [hq], h1, h2, by simp [h3]⟩
theorem zip_snd {l : List (κ × ν)} {bs : List Nat} (h : bs.length = l.length) : (l.zip bs).map (·.2) = bs := by
  induction l generalizing bs with
  | nil => cases bs with
    | nil => rfl
    | cons _ _ => simp at h
  | cons p l ih =>
    cases bs with
    | nil => simp at h
    | cons b bs => simp only [List.zip_cons_cons, List.map_cons]; rw [ih (by simpa using h)]
theorem restK_push {l : List (κ × ν)} {bs : List Nat} {seen : Array Nat} {p : κ × ν} {b : Nat} (hlen : bs.length = l.length) (hn : bs.Nodup) (hm : (p, b) ∈ l.zip bs) (hs : seen.contains b = false) : (restK l bs seen).Perm (p.1 :: restK l bs (seen.push b)) := by
  unfold restK
  have hn2 : (((l.zip bs).filter (fun p => !seen.contains p.2)).map (·.2)).Nodup := by
    refine List.Nodup.sublist ((List.filter_sublist).map _) ?_
    rw [zip_snd hlen]; exact hn
  have hp := perm_take (g := (·.2)) hn2 (p := (p, b)) (List.mem_filter.2 ⟨hm, by simpa using hs⟩)
  have := hp.map (·.1.1)
  refine this.trans ?_
  rw [List.map_cons, List.filter_filter]
  refine List.Perm.of_eq ?_
  congr 2
  apply List.filter_congr
  intro q _
  simp only [Array.contains_push, ne_eq, decide_not]
  by_cases e : q.2 = b
  · simp [e]
  · simp [e]
variable {P : Program} {σ : World} {n : Nat} {Q : Post} {K : Env} {D M N : List Asn} {ops : Array Oper} {rest' : List Oper} {d : Nat} {ty : TypeId} {pos : String} {aft : Array Edge} {G : Act → World → Prop}
theorem mp_open {b : Nat} {l : List (κ × ν)} {w : World} (ss : Sat σ D (mp b kenc venc l :: N) w) : ∃ es clock, es.toList.map (fun e => (e.key, e.val)) = l.map (fun p => (kenc p.1, venc p.2)) ∧ (l.map Prod.fst).Nodup ∧ (es.toList.map (·.born)).Nodup ∧ (∀ e ∈ es.toList, e.born < clock) ∧ Sat σ D (pt b (.map es clock) :: N) w := by
  obtain ⟨z, k, h1, h2, h3, h4, ⟨g1, g2, l1, l2, dj, H, hN⟩⟩ := ss.heap
  obtain ⟨es, clock, e1, e2, e3, e4, e5⟩ := H
  exact ⟨es, clock, e2, e3, e4, e5, ss.os, ss.tape, ss.output, z, k, h1, h2, h3, h4, g1, g2, l1, l2, dj, e1, hN⟩
theorem mpi_open {b it : Nat} {l : List (κ × ν)} {rest : List κ} {cur : Option κ} {w : World} (ss : Sat σ D (mpi b it kenc venc l rest cur :: N) w) : ∃ x : MI l kenc venc rest cur, Sat σ D (pt it (.mapIter (some b) x.since x.seen x.last) :: pt b (.map x.es x.clock) :: N) w := by
  obtain ⟨x, hs⟩ := ss.ex (A := fun (x : MI l kenc venc rest cur) z => Holds [pt it (.mapIter (some b) x.since x.seen x.last), pt b (.map x.es x.clock)] z)
  exact ⟨x, hs.ent Ent.unfold⟩
theorem mpi_shut {b it : Nat} {l : List (κ × ν)} {rest : List κ} {cur : Option κ} {w : World} (x : MI l kenc venc rest cur) (ss : Sat σ D (pt it (.mapIter (some b) x.since x.seen x.last) :: pt b (.map x.es x.clock) :: N) w) : Sat σ D (mpi b it kenc venc l rest cur :: N) w :=
  (ss.ent (Ent.fold (L := [pt it (.mapIter (some b) x.since x.seen x.last), pt b (.map x.es x.clock)]))).ent (Ent.imp fun z H => ⟨x, H⟩)
theorem L.range {t kt et : TypeId} {x : Operand} {b : Nat} {l : List (κ × ν)} (hd : Nat.blt d n = true) (hU : P.underlying t = some (.map kt et)) (hx : ev K x = some (.map (some b))) (hM : Pull (mp b kenc venc l) M N)
    (next : ∀ it, TL none P σ n ops Q rest' ((d, .pointer (some ⟨it, 0, none⟩)) :: K) D (mpi b it kenc venc l (l.map Prod.fst) none :: N)) : TL none P σ n ops Q (⟨some d, .range t x, ty, pos, aft, none⟩ :: rest') K D M :=
  L.valEx hd (fun v D' M' => ∃ it, v = .pointer (some ⟨it, 0, none⟩) ∧ D' = D ∧ M' = mpi b it kenc venc l (l.map Prod.fst) none :: N) (fun a w s ss => by
    obtain ⟨es, clock, e1, e2, e3, e4, hs⟩ := mp_open (ss.ent hM)
    have hb := hs.block (.head _)
    have ex : a.eval x = _ := s.eval hx
    have hr := run_range_map (P := P) w t kt et b es clock hU hb
    refine ⟨_, _, _, w.alloc (.mapIter (some b) clock #[] clock), ?_, ⟨w.heap.size, rfl, rfl, rfl⟩, ?_⟩
    · simp only [execOp, ex]; simp [hr]
    · exact mpi_shut ⟨es, clock, clock, #[], clock, e1, e2, e3, e4, Nat.le_refl _, Nat.le_refl _, by rw [restK_nil (by have := congrArg List.length e1; simpa using this)], (fun h => by cases h), (fun k h => by cases h)⟩ (hs.alloc _))
    (fun v D' M' ⟨it, e1, e2, e3⟩ => by subst e1; subst e2; subst e3; exact next it)
theorem L.next {x : Operand} {b it : Nat} {l : List (κ × ν)} {rest : List κ} {cur : Option κ} (hd : Nat.blt d n = true) (hx : ev K x = some (.pointer (some ⟨it, 0, none⟩))) (hM : Pull (mpi b it kenc venc l rest cur) M N)
    (h1 : rest = [] → TL none P σ n ops Q rest' ((d, .tuple #[.bool false]) :: K) D (mpi b it kenc venc l [] cur :: N))
    (h2 : ∀ k v rs, rest.Perm (k :: rs) → (k, v) ∈ l → TL none P σ n ops Q rest' ((d, .tuple #[.bool true, kenc k, venc v]) :: K) D (mpi b it kenc venc l rs (some k) :: N)) :
    TL none P σ n ops Q (⟨some d, .next x false, ty, pos, aft, none⟩ :: rest') K D M :=
  L.valEx hd (fun u D' M' => (rest = [] ∧ u = .tuple #[.bool false] ∧ D' = D ∧ M' = mpi b it kenc venc l [] cur :: N) ∨ ∃ k v rs, rest.Perm (k :: rs) ∧ (k, v) ∈ l ∧ u = .tuple #[.bool true, kenc k, venc v] ∧ D' = D ∧ M' = mpi b it kenc venc l rs (some k) :: N) (fun a w s ss => by
    obtain ⟨y, hs⟩ := mpi_open (ss.ent hM)
    have hi := hs.block (.head _)
    have hb := hs.block (.tail _ (.head _))
    have ex : a.eval x = _ := s.eval hx
    have hlen : (y.es.toList.map (·.born)).length = l.length := by have := congrArg List.length y.val; simpa using this
    rcases run_nextG (P := P) (ty := ty) hb hi y.old y.sl with ⟨h0, hr⟩ | ⟨e, he, k, hkd, hr⟩
    · have hrest : rest = [] := by
        have hp := y.rest
        have : restK l (y.es.toList.map (·.born)) y.seen = [] := by
          unfold restK
          rw [List.map_eq_nil_iff, List.filter_eq_nil_iff]
          intro q hq
          obtain ⟨p, bq⟩ := q
          have hbq : bq ∈ y.es.toList.map (·.born) := by
            have := List.mem_map_of_mem (f := (·.2)) hq
            rwa [zip_snd hlen] at this
          obtain ⟨e, he, rfl⟩ := List.mem_map.1 hbq
          have hne : e ∉ (leftOf y.es y.seen).toList := by rw [h0]; simp
          simp only [leftOf, Array.toList_filter, List.mem_filter, not_and] at hne
          simpa using hne he
        rw [this] at hp
        exact List.perm_nil.1 hp
      refine ⟨_, _, _, w, ?_, .inl ⟨hrest, rfl, rfl, rfl⟩, ?_⟩
      · simp only [execOp, ex]; simp [hr]
      · subst hrest; exact mpi_shut y hs
    · have he' : e ∈ y.es.toList ∧ y.seen.contains e.born = false := by
        simp only [leftOf, Array.toList_filter, List.mem_filter] at he
        exact ⟨he.1, by simpa using he.2⟩
      obtain ⟨p, hp, q1, q2, q3⟩ := zip_mem y.val he'.1
      have hperm := restK_push hlen y.borns q3 he'.2
      refine ⟨_, _, _, setB { w with drawn := k } it (.mapIter (some b) y.since (y.seen.push e.born) y.clock), ?_, .inr ⟨p.1, p.2, restK l (y.es.toList.map (·.born)) (y.seen.push e.born), y.rest.trans hperm, hp, rfl, rfl, rfl⟩, ?_⟩
      · simp only [execOp, ex]; simp [hr, q1, q2]
      · exact mpi_shut ⟨y.es, y.clock, y.since, y.seen.push e.born, y.clock, y.val, y.keys, y.borns, y.old, y.sc, y.sc, .refl _, fun _ => rfl, fun k' hk' => by
          cases hk'
          exact ⟨e, he'.1, by simp, p.2, hp, q1, q2⟩⟩ ((hs.drew k hkd).setB Upd.here))
    (fun v D' M' h => by
      rcases h with ⟨h0, e1, e2, e3⟩ | ⟨k, v, rs, h0, h3, e1, e2, e3⟩
      · subst e1; subst e2; subst e3; exact h1 h0
      · subst e1; subst e2; subst e3; exact h2 k v rs h0 h3)
theorem L.entry {x : Operand} {b it : Nat} {l : List (κ × ν)} {rest : List κ} {k : κ} {v : ν} (hinj : ∀ k' v', (k', v') ∈ l → kenc k' = kenc k → v' = v) (hd : Nat.blt d n = true) (hx : ev K x = some (.pointer (some ⟨it, 0, none⟩))) (hm : mpi b it kenc venc l rest (some k) ∈ M) (hv : (k, v) ∈ l)
    (next : TL none P σ n ops Q rest' ((d, .tuple #[kenc k, venc v]) :: K) D M) : TL none P σ n ops Q (⟨some d, .entry x, ty, pos, aft, none⟩ :: rest') K D M :=
  L.val hd (fun a w s ss => by
    obtain ⟨z, lz, y, g1, g2, l1, l2, dj, hi, ⟨g3, g4, l3, l4, dj2, hb, _⟩⟩ := ss.own hm
    have hi' : w.heap[it]? = some (.mapIter (some b) y.since y.seen y.last) := lz _ _ (l1 _ _ hi)
    have hb' : w.heap[b]? = some (.map y.es y.clock) := lz _ _ (l2 _ _ (l3 _ _ hb))
    obtain ⟨e, he, hbk, v', hv', q1, q2⟩ := y.cur k rfl
    have hvv : v' = v := hinj k v' hv' rfl
    subst hvv
    have hf : y.es.find? (·.born == e.born) = some e := by rw [← Array.find?_toList]; exact find_born e y.es.toList y.borns he
    have ex : a.eval x = _ := s.eval hx
    have hnow := y.now rfl
    refine ⟨w, ?_, ss⟩
    simp only [execOp, ex, Instr.entry, getObj, Sem.run_bind, Sem.run, hi', hb', Result.andThen, hbk, bne_self_eq_false, Bool.false_eq_true, if_false, hf]
    simp [q1, q2, hnow]) next
theorem T.mpiMp {b it : Nat} {l : List (κ × ν)} {rest : List κ} {cur : Option κ} (hM : Pull (mpi b it kenc venc l rest cur) M N) (next : T σ n G K D (mp b kenc venc l :: N)) : T σ n G K D M := fun a w s ss => by
  obtain ⟨y, hs⟩ := mpi_open (ss.ent hM)
  refine next a w s ((hs.ent (Ent.skip (.refl _))).ent (Ent.imp fun z hz => ⟨y.es, y.clock, hz, y.val, y.keys, y.borns, fun e he => Nat.lt_of_lt_of_le (y.old e he) y.sc⟩))
end
end Cv
