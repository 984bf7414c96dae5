/-
  My own library for walks (CvRange CvDel CvNext CvExt CvIns CvNil CvYield CvUpd CvEntry CvExi CvClr): separation logic over the calls of the kit; no statement of this seat stands here.
-/
import Derived.Test.YtncgoodlhmpfcaaGreatCvLc
import Derived.Laws.IdiomRangeMap
import Derived.Lib.Bytealg
import Derived.Laws.Externs
import Derived.WideKeyRuns
import Derived.Laws.MakeOwn
import Derived.MapKept
set_option linter.all false
namespace Cv
open Go
/-! ## ranging over a map: in whatever order -/
theorem run_nextG {P : Program} {w : World} {ty : TypeId} {it bm since c0 : Nat} {seen : Array Nat} {es : Array MapEntry} {clock : Nat} (hb : w.heap[bm]? = some (.map es clock)) (hi : w.heap[it]? = some (.mapIter (some bm) since seen c0)) (hold : ∀ x ∈ es.toList, x.born < since) (hsc : since ≤ c0) :
    ((leftOf es seen).toList = [] ∧ (Instr.next (.pointer (some ⟨it, 0, none⟩)) false ty).run P w = .ok (.tuple #[.bool false]) w) ∨
    ∃ e ∈ (leftOf es seen).toList, ∃ k, w.drawn ≤ k ∧ (Instr.next (.pointer (some ⟨it, 0, none⟩)) false ty).run P w = .ok (.tuple #[.bool true, e.key, e.val]) (setB { w with drawn := k } it (.mapIter (some bm) since (seen.push e.born) clock)) := by
  simp only [Instr.next, getObj, Sem.run_bind, Sem.run, hi, hb, Result.andThen, next_test_false seen es since c0 hold hsc, Bool.false_eq_true, if_false]
  unfold leftOf
  have hmem : ∀ x ∈ (Array.filter (fun e => !seen.contains e.born) es).toList, x.born < since := fun x hx => hold x (by simp at hx ⊢; exact hx.1)
  generalize Array.filter (fun e => !seen.contains e.born) es = L at hmem ⊢
  have e1 : L.filter (fun x => decide (x.born < since)) = L := Array.filter_eq_self.2 (fun x hx => by simpa using hmem x (by simpa using hx))
  have e2 : L.filter (fun x => decide (x.born ≥ since)) = #[] := by
    rw [Array.filter_eq_empty_iff]
    intro x hx
    have := hmem x (by simpa using hx)
    simp
    omega
  simp only [e1, e2, Array.append_empty]
  by_cases h0 : L.size = 0
  · left
    have : L = #[] := Array.eq_empty_of_size_eq_zero h0
    subst this
    refine ⟨rfl, ?_⟩
    simp [choose, Sem.run, Question.forced]
  · right
    have hne : L.isEmpty = false := by simp [Array.isEmpty, h0]
    simp only [hne, Bool.false_eq_true, if_false, Array.empty_append, Array.size_map]
    have hch : ∃ (j k : Nat), j < L.size ∧ w.drawn ≤ k ∧ (choose (Question.mapNext L.size)).run P w = .ok j { w with drawn := k } := by
      by_cases hf : L.size ≤ 1
      · exact ⟨0, w.drawn, by omega, Nat.le_refl _, by simp [choose, Sem.run, Question.forced, hf]⟩
      · refine ⟨_, w.drawn + 1, Nat.mod_lt (w.tape w.drawn (Question.mapNext L.size)) (by omega), Nat.le_succ _, ?_⟩
        rw [run_choose_drew]
        simp only [Question.forced, decide_eq_true_eq, hf, if_false, Question.cut]
        rfl
    obtain ⟨j, k, hj, hk, hc⟩ := hch
    refine ⟨L[j], by simp, k, hk, ?_⟩
    have hcand : (L.map some)[j]? = some (some L[j]) := by simp [hj]
    rw [hc]
    simp only [hcand]
    have hs := setB_setObj (P := P) (w := { w with drawn := k }) (b := it) (o := .mapIter (some bm) since seen c0) (o' := .mapIter (some bm) since (seen.push L[j].born) clock) hi (fun _ _ _ => by simp)
    simp only [Sem.run_bind, hs, Result.andThen]
    rfl
section
variable {κ ν : Type} {kenc : κ → Value} {venc : ν → Value}
def restK (l : List (κ × ν)) (bs : List Nat) (seen : Array Nat) : List κ := ((l.zip bs).filter (fun p => !seen.contains p.2)).map (·.1.1)
structure MI (l : List (κ × ν)) (kenc : κ → Value) (venc : ν → Value) (rest : List κ) (cur : Option κ) where
  es : Array MapEntry
  clock : Nat
  since : Nat
  seen : Array Nat
  last : Nat
  val : es.toList.map (fun e => (e.key, e.val)) = l.map (fun p => (kenc p.1, venc p.2))
  keys : (l.map Prod.fst).Nodup
  borns : (es.toList.map (·.born)).Nodup
  old : ∀ e ∈ es.toList, e.born < since
  sc : since ≤ clock
  sl : since ≤ last
  rest : rest.Perm (restK l (es.toList.map (·.born)) seen)
  now : cur.isSome = true → clock = last
  cur : ∀ k, cur = some k → ∃ e ∈ es.toList, seen.back? = some e.born ∧ ∃ v, (k, v) ∈ l ∧ e.key = kenc k ∧ e.val = venc v
def mpi (b it : Nat) (kenc : κ → Value) (venc : ν → Value) (l : List (κ × ν)) (rest : List κ) (cur : Option κ) : Asn := fun z => ∃ x : MI l kenc venc rest cur, Holds [pt it (.mapIter (some b) x.since x.seen x.last), pt b (.map x.es x.clock)] z
theorem restK_nil {l : List (κ × ν)} {bs : List Nat} (h : bs.length = l.length) : restK l bs #[] = l.map Prod.fst := by
  unfold restK
  rw [List.filter_eq_self.2 (fun a _ => by simp)]
  induction l generalizing bs with
  | nil => simp
  | cons p l ih =>
    cases bs with
    | nil => simp at h
    | cons b bs => simp only [List.zip_cons_cons, List.map_cons]; rw [ih (by simpa using h)]
theorem perm_take {α : Type} {g : α → Nat} : ∀ {zs : List α}, (zs.map g).Nodup → ∀ {p : α}, p ∈ zs → zs.Perm (p :: zs.filter (fun q => decide (g q ≠ g p)))
  | [], _, _, h => by cases h
  | z :: zs, hn, p, h => by
    simp only [List.map_cons, List.nodup_cons] at hn
    rcases List.mem_cons.1 h with rfl | h
    · have e : zs.filter (fun q => decide (g q ≠ g p)) = zs := List.filter_eq_self.2 (fun q hq => by
        simp only [ne_eq, decide_not, Bool.not_eq_true', decide_eq_false_iff_not]
        exact fun e => hn.1 (List.mem_map.2 ⟨q, hq, e⟩))
      rw [List.filter_cons_of_neg (by simp), e]
    · have hne : g z ≠ g p := fun e => hn.1 (List.mem_map.2 ⟨p, h, e.symm⟩)
      rw [List.filter_cons_of_pos (by simpa using hne)]
      exact ((perm_take hn.2 h).cons z).trans (List.Perm.swap _ _ _)
theorem zip_mem {l : List (κ × ν)} {es : List MapEntry} (h : es.map (fun e => (e.key, e.val)) = l.map (fun p => (kenc p.1, venc p.2))) {e : MapEntry} (he : e ∈ es) : ∃ p ∈ l, e.key = kenc p.1 ∧ e.val = venc p.2 ∧ (p, e.born) ∈ l.zip (es.map (·.born)) := by
  induction es generalizing l with
  | nil => cases he
  | cons x es ih =>
    cases l with
    | nil => simp at h
    | cons p l =>
      simp only [List.map_cons, List.cons.injEq, Prod.mk.injEq] at h
      rcases List.mem_cons.1 he with rfl | he
      · exact ⟨p, by simp, h.1.1, h.1.2, by simp⟩
      · obtain ⟨q, hq, h1, h2, h3⟩ := ih h.2 he
        exact ⟨q, by simp [hq], h1, h2, by simp [h3]⟩
theorem zip_snd {l : List (κ × ν)} {bs : List Nat} (h : bs.length = l.length) : (l.zip bs).map (·.2) = bs := by
  induction l generalizing bs with
  | nil => cases bs with
    | nil => rfl
    | cons _ _ => simp at h
  | cons p l ih =>
    cases bs with
    | nil => simp at h
    | cons b bs => simp only [List.zip_cons_cons, List.map_cons]; rw [ih (by simpa using h)]
theorem restK_push {l : List (κ × ν)} {bs : List Nat} {seen : Array Nat} {p : κ × ν} {b : Nat} (hlen : bs.length = l.length) (hn : bs.Nodup) (hm : (p, b) ∈ l.zip bs) (hs : seen.contains b = false) : (restK l bs seen).Perm (p.1 :: restK l bs (seen.push b)) := by
  unfold restK
  have hn2 : (((l.zip bs).filter (fun p => !seen.contains p.2)).map (·.2)).Nodup := by
    refine List.Nodup.sublist ((List.filter_sublist).map _) ?_
    rw [zip_snd hlen]; exact hn
  have hp := perm_take (g := (·.2)) hn2 (p := (p, b)) (List.mem_filter.2 ⟨hm, by simpa using hs⟩)
  have := hp.map (·.1.1)
  refine this.trans ?_
  rw [List.map_cons, List.filter_filter]
  refine List.Perm.of_eq ?_
  congr 2
  apply List.filter_congr
  intro q _
  simp only [Array.contains_push, ne_eq, decide_not]
  by_cases e : q.2 = b
  · simp [e]
  · simp [e]
variable {P : Program} {σ : World} {n : Nat} {Q : Post} {K : Env} {D M N : List Asn} {ops : Array Oper} {rest' : List Oper} {d : Nat} {ty : TypeId} {pos : String} {aft : Array Edge} {G : Act → World → Prop}
theorem mp_open {b : Nat} {l : List (κ × ν)} {w : World} (ss : Sat σ D (mp b kenc venc l :: N) w) : ∃ es clock, es.toList.map (fun e => (e.key, e.val)) = l.map (fun p => (kenc p.1, venc p.2)) ∧ (l.map Prod.fst).Nodup ∧ (es.toList.map (·.born)).Nodup ∧ (∀ e ∈ es.toList, e.born < clock) ∧ Sat σ D (pt b (.map es clock) :: N) w := by
  obtain ⟨z, k, h1, h2, h3, h4, ⟨g1, g2, l1, l2, dj, H, hN⟩⟩ := ss.heap
  obtain ⟨es, clock, e1, e2, e3, e4, e5⟩ := H
  exact ⟨es, clock, e2, e3, e4, e5, ss.os, ss.tape, ss.output, z, k, h1, h2, h3, h4, g1, g2, l1, l2, dj, e1, hN⟩
theorem mpi_open {b it : Nat} {l : List (κ × ν)} {rest : List κ} {cur : Option κ} {w : World} (ss : Sat σ D (mpi b it kenc venc l rest cur :: N) w) : ∃ x : MI l kenc venc rest cur, Sat σ D (pt it (.mapIter (some b) x.since x.seen x.last) :: pt b (.map x.es x.clock) :: N) w := by
  obtain ⟨x, hs⟩ := ss.ex (A := fun (x : MI l kenc venc rest cur) z => Holds [pt it (.mapIter (some b) x.since x.seen x.last), pt b (.map x.es x.clock)] z)
  exact ⟨x, hs.ent Ent.unfold⟩
theorem mpi_shut {b it : Nat} {l : List (κ × ν)} {rest : List κ} {cur : Option κ} {w : World} (x : MI l kenc venc rest cur) (ss : Sat σ D (pt it (.mapIter (some b) x.since x.seen x.last) :: pt b (.map x.es x.clock) :: N) w) : Sat σ D (mpi b it kenc venc l rest cur :: N) w :=
  (ss.ent (Ent.fold (L := [pt it (.mapIter (some b) x.since x.seen x.last), pt b (.map x.es x.clock)]))).ent (Ent.imp fun z H => ⟨x, H⟩)
theorem L.range {t kt et : TypeId} {x : Operand} {b : Nat} {l : List (κ × ν)} (hd : Nat.blt d n = true) (hU : P.underlying t = some (.map kt et)) (hx : ev K x = some (.map (some b))) (hM : Pull (mp b kenc venc l) M N)
    (next : ∀ it, TL none P σ n ops Q rest' ((d, .pointer (some ⟨it, 0, none⟩)) :: K) D (mpi b it kenc venc l (l.map Prod.fst) none :: N)) : TL none P σ n ops Q (⟨some d, .range t x, ty, pos, aft, none⟩ :: rest') K D M :=
  L.valEx hd (fun v D' M' => ∃ it, v = .pointer (some ⟨it, 0, none⟩) ∧ D' = D ∧ M' = mpi b it kenc venc l (l.map Prod.fst) none :: N) (fun a w s ss => by
    obtain ⟨es, clock, e1, e2, e3, e4, hs⟩ := mp_open (ss.ent hM)
    have hb := hs.block (.head _)
    have ex : a.eval x = _ := s.eval hx
    have hr := run_range_map (P := P) w t kt et b es clock hU hb
    refine ⟨_, _, _, w.alloc (.mapIter (some b) clock #[] clock), ?_, ⟨w.heap.size, rfl, rfl, rfl⟩, ?_⟩
    · simp only [execOp, ex]; simp [hr]
    · exact mpi_shut ⟨es, clock, clock, #[], clock, e1, e2, e3, e4, Nat.le_refl _, Nat.le_refl _, by rw [restK_nil (by have := congrArg List.length e1; simpa using this)], (fun h => by cases h), (fun k h => by cases h)⟩ (hs.alloc _))
    (fun v D' M' ⟨it, e1, e2, e3⟩ => by subst e1; subst e2; subst e3; exact next it)
theorem L.next {x : Operand} {b it : Nat} {l : List (κ × ν)} {rest : List κ} {cur : Option κ} (hd : Nat.blt d n = true) (hx : ev K x = some (.pointer (some ⟨it, 0, none⟩))) (hM : Pull (mpi b it kenc venc l rest cur) M N)
    (h1 : rest = [] → TL none P σ n ops Q rest' ((d, .tuple #[.bool false]) :: K) D (mpi b it kenc venc l [] cur :: N))
    (h2 : ∀ k v rs, rest.Perm (k :: rs) → (k, v) ∈ l → TL none P σ n ops Q rest' ((d, .tuple #[.bool true, kenc k, venc v]) :: K) D (mpi b it kenc venc l rs (some k) :: N)) :
    TL none P σ n ops Q (⟨some d, .next x false, ty, pos, aft, none⟩ :: rest') K D M :=
  L.valEx hd (fun u D' M' => (rest = [] ∧ u = .tuple #[.bool false] ∧ D' = D ∧ M' = mpi b it kenc venc l [] cur :: N) ∨ ∃ k v rs, rest.Perm (k :: rs) ∧ (k, v) ∈ l ∧ u = .tuple #[.bool true, kenc k, venc v] ∧ D' = D ∧ M' = mpi b it kenc venc l rs (some k) :: N) (fun a w s ss => by
    obtain ⟨y, hs⟩ := mpi_open (ss.ent hM)
    have hi := hs.block (.head _)
    have hb := hs.block (.tail _ (.head _))
    have ex : a.eval x = _ := s.eval hx
    have hlen : (y.es.toList.map (·.born)).length = l.length := by have := congrArg List.length y.val; simpa using this
    rcases run_nextG (P := P) (ty := ty) hb hi y.old y.sl with ⟨h0, hr⟩ | ⟨e, he, k, hkd, hr⟩
    · have hrest : rest = [] := by
        have hp := y.rest
        have : restK l (y.es.toList.map (·.born)) y.seen = [] := by
          unfold restK
          rw [List.map_eq_nil_iff, List.filter_eq_nil_iff]
          intro q hq
          obtain ⟨p, bq⟩ := q
          have hbq : bq ∈ y.es.toList.map (·.born) := by
            have := List.mem_map_of_mem (f := (·.2)) hq
            rwa [zip_snd hlen] at this
          obtain ⟨e, he, rfl⟩ := List.mem_map.1 hbq
          have hne : e ∉ (leftOf y.es y.seen).toList := by rw [h0]; simp
          simp only [leftOf, Array.toList_filter, List.mem_filter, not_and] at hne
          simpa using hne he
        rw [this] at hp
        exact List.perm_nil.1 hp
      refine ⟨_, _, _, w, ?_, .inl ⟨hrest, rfl, rfl, rfl⟩, ?_⟩
      · simp only [execOp, ex]; simp [hr]
      · subst hrest; exact mpi_shut y hs
    · have he' : e ∈ y.es.toList ∧ y.seen.contains e.born = false := by
        simp only [leftOf, Array.toList_filter, List.mem_filter] at he
        exact ⟨he.1, by simpa using he.2⟩
      obtain ⟨p, hp, q1, q2, q3⟩ := zip_mem y.val he'.1
      have hperm := restK_push hlen y.borns q3 he'.2
      refine ⟨_, _, _, setB { w with drawn := k } it (.mapIter (some b) y.since (y.seen.push e.born) y.clock), ?_, .inr ⟨p.1, p.2, restK l (y.es.toList.map (·.born)) (y.seen.push e.born), y.rest.trans hperm, hp, rfl, rfl, rfl⟩, ?_⟩
      · simp only [execOp, ex]; simp [hr, q1, q2]
      · exact mpi_shut ⟨y.es, y.clock, y.since, y.seen.push e.born, y.clock, y.val, y.keys, y.borns, y.old, y.sc, y.sc, .refl _, fun _ => rfl, fun k' hk' => by
          cases hk'
          exact ⟨e, he'.1, by simp, p.2, hp, q1, q2⟩⟩ ((hs.drew k hkd).setB Upd.here))
    (fun v D' M' h => by
      rcases h with ⟨h0, e1, e2, e3⟩ | ⟨k, v, rs, h0, h3, e1, e2, e3⟩
      · subst e1; subst e2; subst e3; exact h1 h0
      · subst e1; subst e2; subst e3; exact h2 k v rs h0 h3)
theorem L.entry {x : Operand} {b it : Nat} {l : List (κ × ν)} {rest : List κ} {k : κ} {v : ν} (hinj : ∀ k' v', (k', v') ∈ l → kenc k' = kenc k → v' = v) (hd : Nat.blt d n = true) (hx : ev K x = some (.pointer (some ⟨it, 0, none⟩))) (hm : mpi b it kenc venc l rest (some k) ∈ M) (hv : (k, v) ∈ l)
    (next : TL none P σ n ops Q rest' ((d, .tuple #[kenc k, venc v]) :: K) D M) : TL none P σ n ops Q (⟨some d, .entry x, ty, pos, aft, none⟩ :: rest') K D M :=
  L.val hd (fun a w s ss => by
    obtain ⟨z, lz, y, g1, g2, l1, l2, dj, hi, ⟨g3, g4, l3, l4, dj2, hb, _⟩⟩ := ss.own hm
    have hi' : w.heap[it]? = some (.mapIter (some b) y.since y.seen y.last) := lz _ _ (l1 _ _ hi)
    have hb' : w.heap[b]? = some (.map y.es y.clock) := lz _ _ (l2 _ _ (l3 _ _ hb))
    obtain ⟨e, he, hbk, v', hv', q1, q2⟩ := y.cur k rfl
    have hvv : v' = v := hinj k v' hv' rfl
    subst hvv
    have hf : y.es.find? (·.born == e.born) = some e := by rw [← Array.find?_toList]; exact find_born e y.es.toList y.borns he
    have ex : a.eval x = _ := s.eval hx
    have hnow := y.now rfl
    refine ⟨w, ?_, ss⟩
    simp only [execOp, ex, Instr.entry, getObj, Sem.run_bind, Sem.run, hi', hb', Result.andThen, hbk, bne_self_eq_false, Bool.false_eq_true, if_false, hf]
    simp [q1, q2, hnow]) next
theorem T.mpiMp {b it : Nat} {l : List (κ × ν)} {rest : List κ} {cur : Option κ} (hM : Pull (mpi b it kenc venc l rest cur) M N) (next : T σ n G K D (mp b kenc venc l :: N)) : T σ n G K D M := fun a w s ss => by
  obtain ⟨y, hs⟩ := mpi_open (ss.ent hM)
  refine next a w s ((hs.ent (Ent.skip (.refl _))).ent (Ent.imp fun z hz => ⟨y.es, y.clock, hz, y.val, y.keys, y.borns, fun e he => Nat.lt_of_lt_of_le (y.old e he) y.sc⟩))
end
end Cv
namespace Cv
open Go
/-! ## a slice's own elements, moved within it (append of a later part onto an earlier one) -/
section
variable {P : Program} {σ : World} {n : Nat} {Q : Post} {K : Env} {D M N : List Asn} {m : Option (List Asn × List Asn)} {ops : Array Oper} {l rest : List Oper} {d : Nat} {ty : TypeId} {pos : String} {aft : Array Edge}
theorem L.sliceMax {t e : TypeId} {x mx : Operand} {lo hi : Option Operand} {a : Option Addr} {len cap l h mm sz : Nat} {k : IntKind} (hd : Nat.blt d n = true) (hU : P.underlying t = some (.slice e)) (hz : Sz P e sz) (hx : ev K x = some (.slice a len cap)) (hlo : Bd K lo 0 l) (hhi : ∃ y k z, hi = some y ∧ ev K y = some (.int k z) ∧ z = (h : Int)) (hmx : ev K mx = some (.int k (mm : Int)))
    (h1 : l ≤ h) (h2 : h ≤ mm) (h3 : mm ≤ cap) (next : TL m P σ n ops Q rest ((d, .slice (cutA a mm l sz) (h - l) (mm - l)) :: K) D M) :
    TL m P σ n ops Q (⟨some d, .slice t x lo hi (some mx), ty, pos, aft, none⟩ :: rest) K D M :=
  L.pureOp hd (fun ρ w s => by
    have e1 := s hx
    have e0 := s hmx
    obtain ⟨y, kk, z, rfl, hy, rfl⟩ := hhi
    have e4 := s hy
    have e2 : (Instr.sliceBounds true len cap (lo.map ρ) (some (.int kk (h : Int))) (some (.int k (mm : Int)))).run P w = .ok (l, h, mm) w := by
      rcases (hlo.val s) with ⟨hl, rfl⟩ | ⟨kl, hl⟩ <;> simp [Instr.sliceBounds, run_sliceBound, h1, h2, h3, hl]
    have e3 := hz w
    simp only [execOp, e1, Option.map_some, e0, e4]
    simp [Instr.sliceAt, run_underlying hU, Instr.slice, e2, e3, cutA]) next
end
end Cv
namespace Cv
open Go
section
variable {κ ν : Type} [DecidableEq κ]
theorem look_of_mem {l : List (κ × ν)} (hn : (l.map Prod.fst).Nodup) {k : κ} {v : ν} (h : (k, v) ∈ l) : look l k = some v := by
  induction l with
  | nil => cases h
  | cons p l ih =>
    obtain ⟨k', v'⟩ := p
    simp only [List.map_cons, List.nodup_cons] at hn
    rcases List.mem_cons.1 h with e | e
    · cases e; simp [look]
    · have hne : k' ≠ k := by
        rintro rfl
        exact hn.1 (List.mem_map_of_mem (f := Prod.fst) e)
      simp only [look, if_neg hne]
      exact ih hn.2 e
theorem ent_inj {l : List (κ × ν)} {kenc : κ → Value} {k : κ} {v : ν} (hinj : ∀ a b, kenc a = kenc b → a = b) (hn : (l.map Prod.fst).Nodup) (hv : (k, v) ∈ l) : ∀ k' v', (k', v') ∈ l → kenc k' = kenc k → v' = v := fun k' v' h e => by
  obtain rfl := hinj _ _ e
  have h1 := look_of_mem hn h
  rw [look_of_mem hn hv] at h1
  exact (Option.some.inj h1).symm
theorem iK_inj (a b : Int) (h : iK a = iK b) : a = b := by unfold iK at h; injection h
end
section
variable {σ : World} {n : Nat} {G : Act → World → Prop} {K : Env} {D M N : List Asn} {κ ν : Type} {kenc : κ → Value} {venc : ν → Value}
theorem T.mpNodup {b : Nat} {l : List (κ × ν)} (hm : mp b kenc venc l ∈ M) (next : (l.map Prod.fst).Nodup → T σ n G K D M) : T σ n G K D M :=
  T.pure hm (fun z ⟨_, _, _, _, h, _⟩ => h) next
end
section
variable {P : Program} {σ : World} {n : Nat} {Q : Post} {K : Env} {D M : List Asn} {m : Option (List Asn × List Asn)} {ops : Array Oper} {rest : List Oper} {d : Nat} {ty : TypeId} {pos : String} {aft : Array Edge} {κ ν : Type} [DecidableEq κ] {kenc : κ → Value} {venc : ν → Value}
end
end Cv
namespace Cv
open Go
/-! ## functions without a text: comparing bytes -/
abbrev cmpB (a b : List UInt8) : Int := Go.Lib.compareBytes a b
theorem cmpB_self : ∀ (a : List UInt8), cmpB a a = 0
  | [] => rfl
  | x :: a => by
    have h : ¬ x < x := UInt8.lt_irrefl x
    simp only [cmpB, Go.Lib.compareBytes, h, if_false]; exact cmpB_self a
theorem u8_tri {x y : UInt8} (h1 : ¬ x < y) (h2 : ¬ y < x) : x = y := by
  apply UInt8.toNat_inj.1
  rw [UInt8.lt_iff_toNat_lt] at h1 h2
  omega
theorem cmpB_eq : ∀ {a b : List UInt8}, cmpB a b = 0 → a = b
  | [], [], _ => rfl
  | [], _ :: _, h => by simp [cmpB, Go.Lib.compareBytes] at h
  | _ :: _, [], h => by simp [cmpB, Go.Lib.compareBytes] at h
  | x :: a, y :: b, h => by
    simp only [cmpB, Go.Lib.compareBytes] at h
    by_cases h1 : x < y
    · rw [if_pos h1] at h; cases h
    · by_cases h2 : y < x
      · rw [if_neg h1, if_pos h2] at h; cases h
      · rw [if_neg h1, if_neg h2] at h
        rw [u8_tri h1 h2, cmpB_eq h]
theorem cmpB_neg : ∀ (a b : List UInt8), cmpB b a = -cmpB a b
  | [], [] => rfl
  | [], _ :: _ => rfl
  | _ :: _, [] => rfl
  | x :: a, y :: b => by
    simp only [cmpB, Go.Lib.compareBytes]
    by_cases h1 : x < y
    · have h2 : ¬ y < x := by rw [UInt8.lt_iff_toNat_lt] at h1 ⊢; omega
      rw [if_pos h1, if_neg h2, if_pos h1]; rfl
    · by_cases h2 : y < x
      · rw [if_pos h2, if_neg h1, if_pos h2]
      · rw [if_neg h1, if_neg h2, if_neg h2, if_neg h1]; exact cmpB_neg a b
theorem cmpB_trans : ∀ {a b c : List UInt8}, cmpB a b < 0 → cmpB b c < 0 → cmpB a c < 0
  | [], b, [], h, k => by
    cases b with
    | nil => exact h
    | cons y b => simp [cmpB, Go.Lib.compareBytes] at k
  | [], _, _ :: _, _, _ => by simp [cmpB, Go.Lib.compareBytes]
  | _ :: _, [], _, h, _ => by simp [cmpB, Go.Lib.compareBytes] at h
  | _ :: _, _ :: _, [], _, k => by simp [cmpB, Go.Lib.compareBytes] at k
  | x :: a, y :: b, z :: c, h, k => by
    simp only [cmpB, Go.Lib.compareBytes] at h k ⊢
    simp only [UInt8.lt_iff_toNat_lt] at h k ⊢
    by_cases h1 : x.toNat < y.toNat
    · by_cases k1 : y.toNat < z.toNat
      · rw [if_pos (by omega)]; decide
      · by_cases k2 : z.toNat < y.toNat
        · rw [if_neg k1, if_pos k2] at k; exact absurd k (by decide)
        · rw [if_pos (by omega)]; decide
    · by_cases h2 : y.toNat < x.toNat
      · rw [if_neg h1, if_pos h2] at h; exact absurd h (by decide)
      · rw [if_neg h1, if_neg h2] at h
        by_cases k1 : y.toNat < z.toNat
        · rw [if_pos (by omega)]; decide
        · by_cases k2 : z.toNat < y.toNat
          · rw [if_neg k1, if_pos k2] at k; exact absurd k (by decide)
          · rw [if_neg k1, if_neg k2] at k
            rw [if_neg (by omega), if_neg (by omega)]
            exact cmpB_trans h k
theorem cmpB_lt : ∀ {a b : List UInt8}, cmpB a b < 0 ↔ a < b
  | [], [] => by simp [cmpB, Go.Lib.compareBytes]
  | [], _ :: _ => by simp [cmpB, Go.Lib.compareBytes]
  | _ :: _, [] => by simp [cmpB, Go.Lib.compareBytes]
  | x :: a, y :: b => by
    rw [List.cons_lt_cons_iff, ← cmpB_lt (a := a) (b := b)]
    simp only [cmpB, Go.Lib.compareBytes]
    by_cases h1 : x < y
    · rw [if_pos h1]; simp [h1]
    · by_cases h2 : y < x
      · have hne : x ≠ y := by rintro rfl; exact h1 h2
        rw [if_neg h1, if_pos h2]; simp [h1, hne]
      · rw [if_neg h1, if_neg h2]
        have := u8_tri h1 h2
        subst this
        simp [h1]
section
variable {P : Program} {σ : World} {n : Nat} {Q : Post} {K : Env} {D M : List Asn} {m : Option (List Asn × List Asn)} {ops : Array Oper} {rest : List Oper} {d : Nat} {ty : TypeId} {pos : String} {aft : Array Edge}
def IsX (P : Program) (f : FuncId) (e : Array Value → Sem Value) : Prop := ∀ args w, (callFunc f args).run P w = ((e args).run P w).andThen fun v w' => .ok (.value v) w'
theorem IsX.of {P : Program} {f : FuncId} {fn : Func} {e : Array Value → Sem Value} (hf : P.funcs[f]? = some fn) (hname : (fn.name == "runtime.NumGoroutine") = false) (hb : fn.body.isNone = true) (hn : Extern.findNext fn = none) (he : Extern.find fn = some e) : IsX P f e :=
  fun args w => run_callFunc_extern hf hname hb hn he args w
theorem L.callX {f : FuncId} {e : Array Value → Sem Value} {xs : List Operand} {ats : Array TypeId} {args : List Value} {v : Value} (hX : IsX P f e) (hd : Nat.blt d n = true) (hx : evs K xs args) (hr : ∀ w, Sat σ D M w → (e args.toArray).run P w = .ok v w)
    (next : TL m P σ n ops Q rest ((d, v) :: K) D M) : TL m P σ n ops Q (⟨some d, .call { callee := .value (.func f), args := xs.toArray, argTypes := ats }, ty, pos, aft, none⟩ :: rest) K D M :=
  L.quiet hd (fun a w s ss => by
    have h1 := hX args.toArray w
    have h2 : xs.map a.eval = args := s.evals hx
    rw [hr w ss] at h1
    simp only [execOp, resolve, Deferred.ofValue, Act.eval, bind, pure, Sem.bind, invoke, List.map_toArray, h2, Array.empty_append, Array.append_empty]
    exact h1) next
theorem run_loadB {w : World} : ∀ (l : List UInt8) (a : Addr) (acc : ByteArray), (∀ j x, l[j]? = some x → w.cell? (a.add j) = some (Y x)) →
    (Extern.Bytes.loadBytes a l.length acc).run P w = .ok ⟨acc.data ++ l.toArray⟩ w
  | [], a, acc, _ => by simp [Extern.Bytes.loadBytes]
  | x :: l, a, acc, h => by
    have h0 : w.cell? a = some (.int .u8 x.toNat) := by
      have := h 0 x rfl
      simpa [Addr.add, Y] using this
    have ih := run_loadB l (a.add 1) (acc.push x) (fun j y hy => by
      have := h (j + 1) y (by simpa using hy)
      have e : (a.add 1).add j = a.add (j + 1) := by
        unfold Addr.add
        by_cases hj : j = 0
        · subst hj; simp
        · simp [hj]; omega
      rw [e]; exact this)
    simp only [List.length_cons, Extern.Bytes.loadBytes, Sem.run_bind, run_load, h0, Result.andThen]
    have e2 : ((x.toNat : Int).toNat).toUInt8 = x := by simp
    rw [e2, ih]
    congr 1
    apply ByteArray.ext
    simp [ByteArray.push]
theorem run_bytesOf {w : World} {a : Option Addr} {len cap : Nat} {l : List UInt8} (ss : Sat σ D M w) (hm : rsl 1 a len cap (l.map yr) ∈ D) : (Extern.Bytes.bytesOf (.slice a len cap)).run P w = .ok ⟨l.toArray⟩ w := by
  obtain ⟨y', l', q1, q2, q3, q4⟩ := ss.fact hm
  rw [List.length_map] at q1
  cases a with
  | none =>
    have : l = [] := by
      rcases q4 with e | ⟨b, o, c, t, m, e, _⟩
      · simpa using e
      · cases e
    subst this
    rfl
  | some p =>
    have := run_loadB (P := P) (w := w) l p .empty (fun j x e => by
      rcases q4 with e' | ⟨b, o, c, t, m, e1, e2, e3⟩
      · have : l = [] := by simpa using e'
        subst this; simp at e
      · injection e1 with e1; subst e1
        rw [add_lit, cell_of (l' _ _ e2)]
        have := e3 j 0 (yr x) (Y x) (by rw [List.getElem?_map, e]; rfl) rfl
        simpa using this)
    rw [q1] at this
    show (Extern.Bytes.loadBytes p len .empty).run P w = _
    rw [this]; simp
theorem L.cmpSl {f : FuncId} {x y : Operand} {ats : Array TypeId} {a b : Option Addr} {la ca lb cb : Nat} {p q : List UInt8} (hX : IsX P f Extern.BytealgCompare.compare) (hd : Nat.blt d n = true) (hx : evs K [x, y] [.slice a la ca, .slice b lb cb]) (h1 : rsl 1 a la ca (p.map yr) ∈ D) (h2 : rsl 1 b lb cb (q.map yr) ∈ D)
    (next : TL m P σ n ops Q rest ((d, .int .i64 (cmpB p q)) :: K) D M) : TL m P σ n ops Q (⟨some d, .call { callee := .value (.func f), args := [x, y].toArray, argTypes := ats }, ty, pos, aft, none⟩ :: rest) K D M :=
  L.callX hX hd hx (fun w ss => by
    show (do Pure.pure (goInt (Extern.BytealgCompare.cmp (← Extern.Bytes.bytesOf (.slice a la ca)) (← Extern.Bytes.bytesOf (.slice b lb cb)))) : Sem Value).run P w = _
    simp only [Sem.run_bind, Sem.run_pure, run_bytesOf ss h1, run_bytesOf ss h2, Result.andThen]
    rw [Go.Lib.cmp_eq]
    rfl) next
theorem L.cmpStr {f : FuncId} {x y : Operand} {ats : Array TypeId} {p q : List UInt8} (hX : IsX P f Extern.BytealgCompare.compare) (hd : Nat.blt d n = true) (hx : evs K [x, y] [S p, S q])
    (next : TL m P σ n ops Q rest ((d, .int .i64 (cmpB p q)) :: K) D M) : TL m P σ n ops Q (⟨some d, .call { callee := .value (.func f), args := [x, y].toArray, argTypes := ats }, ty, pos, aft, none⟩ :: rest) K D M :=
  L.callX hX hd hx (fun w ss => Go.Lib.run_compareString (P := P) ⟨p.toArray⟩ ⟨q.toArray⟩ w) next
theorem L.copyStr {td ts e tb : TypeId} {x y : Operand} {b o dl dc k : Nat} {cs cs' : List Value} {l : List UInt8} {M' : List Asn} (hd : Nat.blt d n = true) (hU : P.underlying td = some (.slice e)) (hz : Sz P e 1) (hx : ev K x = some (.slice (some ⟨b, o, none⟩) dl dc)) (hy : ev K y = some (S l))
    (hk : Nat.min l.length dl = k) (hu : Upd (cl b tb cs) (cl b tb cs') M M') (hs : SetAt cs o ((l.take k).map Y) cs')
    (next : TL none P σ n ops Q rest ((d, .int .i64 k) :: K) D M') : TL none P σ n ops Q (⟨some d, .call { callee := .builtin .copy, args := #[x, y], argTypes := #[td, ts] }, ty, pos, aft, none⟩ :: rest) K D M :=
  L.val hd (fun aa w s ss => by
    obtain ⟨O, e1, e2⟩ := hu
    have hb := (ss.ent e1).block (.head _)
    have e3 := hz w
    have h2 := run_storeCells_at P b o tb ((l.take k).map Y) 0 cs.toArray w hb (by simpa using hs.1) (fun u hu => by obtain ⟨z, _, rfl⟩ := List.mem_map.1 hu; rfl)
    simp only [Nat.add_zero] at h2
    refine ⟨_, ?_, ss.setB (o' := .cells cs'.toArray tb (0, 0)) ⟨O, e1, e2⟩⟩
    have ex : aa.eval x = _ := s.eval hx
    have ey : aa.eval y = _ := s.eval hy
    have h3 : Sem.run P (storeCells ⟨b, o, none⟩ ((l.take k).map Y)) w = .ok () (setB w b (.cells cs'.toArray tb (0, 0))) := by
      rw [show (storeCells ⟨b, o, none⟩ ((l.take k).map Y)) = storeCells ⟨b, o, none⟩ ((l.take k).map Y) 0 from rfl, h2, setRow_setB hb, hs.2]
    have h4 : (Builtin.firstCells 1 k (S l)).run P w = .ok ((l.take k).map Y).toArray w := by
      show Sem.run P (Pure.pure _) w = _
      rw [Sem.run_pure]
      congr 1
      apply Array.toList_inj.1
      simp only [ByteArray.data_extract, List.map_take, Array.toList_map, Array.toList_extract]
      simp [Y, Function.comp_def, ← List.map_take]
    have h5 : (Builtin.lenOf (S l)).run P w = .ok l.length w := by
      show Sem.run P (Pure.pure _) w = _
      rw [Sem.run_pure]; rfl
    simp [execOp, resolve, invoke, builtin, ex, ey, Builtin.copy_, run_underlying hU, h5, hk, e3, h4, h3, goInt, -List.map_take]) next
end
end Cv
namespace Cv
open Go
end Cv
namespace Cv
open Go
end Cv
namespace Cv
open Go
/-! ## sorting in place, stably: what is kept -/
section
variable {α : Type} [Inhabited α]
structure SM (xs ys : List α) : Prop where
  len : ys.length = xs.length
  sub : ∀ y ∈ ys, y ∈ xs
  perm : ys.Perm xs
theorem SM.refl (xs : List α) : SM xs xs := ⟨rfl, fun _ h => h, .refl _⟩
theorem SM.trans {xs ys zs : List α} (h : SM xs ys) (k : SM ys zs) : SM xs zs := ⟨k.1.trans h.1, fun z hz => h.2 z (k.2 z hz), k.3.trans h.3⟩
def sw (zs : List α) (i j : Nat) : List α := (zs.set i (gd zs j)).set j (gd zs i)
theorem gd_mem {zs : List α} {i : Nat} (h : i < zs.length) : gd zs i ∈ zs := List.mem_of_getElem? (gd_get h)
theorem sw_perm {zs : List α} {i j : Nat} (hi : i < zs.length) (hj : j < zs.length) : (sw zs i j).Perm zs := by
  have h := Array.swap_perm (xs := zs.toArray) (i := i) (j := j) (by simpa using hi) (by simpa using hj)
  have h2 := Array.perm_iff_toList_perm.1 h
  have e1 : gd zs i = zs[i] := by unfold gd; simp [hi]
  have e2 : gd zs j = zs[j] := by unfold gd; simp [hj]
  rw [sw, e1, e2]
  simpa [Array.swap] using h2
theorem sw_sm {zs : List α} {i j : Nat} (hi : i < zs.length) (hj : j < zs.length) : SM zs (sw zs i j) := ⟨by simp [sw], fun y hy => by
  rcases List.mem_or_eq_of_mem_set hy with h | h
  · rcases List.mem_or_eq_of_mem_set h with h | h
    · exact h
    · subst h; exact gd_mem hj
  · subst h; exact gd_mem hi, sw_perm hi hj⟩
theorem gd_sw {zs : List α} {i j k : Nat} (hi : i < zs.length) (hj : j < zs.length) : gd (sw zs i j) k = if k = j then gd zs i else if k = i then gd zs j else gd zs k := by
  unfold sw gd
  simp only [List.getD_eq_getElem?_getD, List.getElem?_set, List.length_set]
  by_cases h1 : k = j
  · subst h1; simp [hj]
  · rw [if_neg h1, if_neg (fun e => h1 e.symm)]
    by_cases h2 : k = i
    · subst h2; simp [hi]
    · rw [if_neg h2, if_neg (fun e => h2 e.symm)]
def Srt (cf : α → α → Int) (xs : List α) : Prop := ∀ p q, p < q → q < xs.length → ¬ cf (gd xs q) (gd xs p) < 0
structure Cmp (cf : α → α → Int) : Prop where
  anti : ∀ x y, cf y x = - cf x y
  trans : ∀ x y z, cf x y ≤ 0 → cf y z ≤ 0 → cf x z ≤ 0 ∧ (cf x z = 0 → cf x y = 0 ∧ cf y z = 0)
def Rt (cf : α → α → Int) (tag : α → Nat) (x y : α) : Prop := cf x y < 0 ∨ (cf x y = 0 ∧ tag x < tag y)
theorem Rt.trans {cf : α → α → Int} {tag : α → Nat} (h : Cmp cf) {x y z : α} (a : Rt cf tag x y) (b : Rt cf tag y z) : Rt cf tag x z := by
  have t := h.trans x y z (by rcases a with a | a <;> omega) (by rcases b with b | b <;> omega)
  unfold Rt at *
  by_cases e : cf x z = 0
  · have := t.2 e; right; omega
  · left; omega
def Pw (R : α → α → Prop) (zs : List α) (n : Nat) : Prop := ∀ p q, p < q → q < n → R (gd zs p) (gd zs q)
def PwBut (R : α → α → Prop) (zs : List α) (i j : Nat) : Prop := (∀ p q, p < q → q ≤ i → p ≠ j → q ≠ j → R (gd zs p) (gd zs q)) ∧ ∀ q, j < q → q ≤ i → R (gd zs j) (gd zs q)
structure InsO (cf : α → α → Int) (xs zs : List α) (i : Nat) : Prop where
  sm : SM xs zs
  same : Srt cf xs → zs = xs
  ord : ∀ tag : α → Nat, (∀ p q, p < q → q < xs.length → tag (gd xs p) < tag (gd xs q)) → Pw (Rt cf tag) zs i ∧ (∀ p q, p < q → q < zs.length → (i ≤ p ∨ (p < i ∧ i ≤ q)) → tag (gd zs p) < tag (gd zs q))
structure InsJ (cf : α → α → Int) (xs zs : List α) (i j : Nat) : Prop where
  sm : SM xs zs
  same : Srt cf xs → zs = xs ∧ j = i
  ord : ∀ tag : α → Nat, (∀ p q, p < q → q < xs.length → tag (gd xs p) < tag (gd xs q)) → PwBut (Rt cf tag) zs i j ∧ (∀ p, p ≤ i → p ≠ j → tag (gd zs p) < tag (gd zs j)) ∧ (∀ p q, p < q → q < zs.length → (i < p ∨ (p ≤ i ∧ i < q)) → tag (gd zs p) < tag (gd zs q))
theorem InsO.zero {cf : α → α → Int} (xs : List α) : InsO cf xs xs 1 := ⟨.refl _, fun _ => rfl, fun tag h => ⟨fun p q h1 h2 => by omega, fun p q h1 h2 _ => h p q h1 h2⟩⟩
theorem InsO.start {cf : α → α → Int} {xs zs : List α} {i : Nat} (h : InsO cf xs zs i) (hi : i < zs.length) : InsJ cf xs zs i i := ⟨h.sm, fun q => ⟨h.same q, rfl⟩, fun tag ht => by
  obtain ⟨h1, h2⟩ := h.ord tag ht
  exact ⟨⟨fun p q a b c d => h1 p q a (by omega), fun q a b => by omega⟩, fun p a b => h2 p i (by omega) hi (.inr ⟨by omega, Nat.le_refl _⟩), fun p q a b c => h2 p q a b (by omega)⟩⟩
theorem InsJ.swap {cf : α → α → Int} {xs zs : List α} {i j : Nat} (h : InsJ cf xs zs i j) (hi : i < zs.length) (hj : j ≤ i) (h0 : 0 < j) (hl : cf (gd zs j) (gd zs (j - 1)) < 0) : InsJ cf xs (sw zs j (j - 1)) i (j - 1) := by
  refine ⟨h.sm.trans (sw_sm (by omega) (by omega)), fun q => ?_, fun tag ht => ?_⟩
  · obtain ⟨e, rfl⟩ := h.same q
    subst e
    exact absurd hl (q (j - 1) j (by omega) (by omega))
  · obtain ⟨⟨h1, h2⟩, h3, h4⟩ := h.ord tag ht
    have g : ∀ k, gd (sw zs j (j - 1)) k = if k = j - 1 then gd zs j else if k = j then gd zs (j - 1) else gd zs k := fun k => gd_sw (by omega) (by omega)
    have len : (sw zs j (j - 1)).length = zs.length := by simp [sw]
    refine ⟨⟨fun p q a b c d => ?_, fun q a b => ?_⟩, fun p a b => ?_, fun p q a b c => ?_⟩
    · rw [g p, g q, if_neg c, if_neg d]
      by_cases e1 : p = j
      · rw [if_pos e1, if_neg (by omega)]; exact h1 _ _ (by omega) b (by omega) (by omega)
      · rw [if_neg e1]
        by_cases e2 : q = j
        · rw [if_pos e2]; exact h1 _ _ (by omega) (by omega) e1 (by omega)
        · rw [if_neg e2]; exact h1 _ _ a b e1 e2
    · rw [g (j - 1), g q, if_pos rfl, if_neg (by omega)]
      by_cases e2 : q = j
      · rw [if_pos e2]; exact .inl hl
      · rw [if_neg e2]; exact h2 _ (by omega) b
    · rw [g p, g (j - 1), if_pos rfl, if_neg b]
      by_cases e1 : p = j
      · rw [if_pos e1]; exact h3 _ (by omega) (by omega)
      · rw [if_neg e1]; exact h3 _ a e1
    · rw [len] at b
      rw [g p, g q]
      by_cases e0 : i < p
      · rw [if_neg (by omega), if_neg (by omega), if_neg (by omega), if_neg (by omega)]; exact h4 _ _ a b (.inl e0)
      · have hq : i < q := by omega
        rw [if_neg (show ¬ q = j - 1 by omega), if_neg (show ¬ q = j by omega)]
        split
        · exact h4 _ _ (by omega) b (.inr ⟨by omega, hq⟩)
        · split
          · exact h4 _ _ (by omega) b (.inr ⟨by omega, hq⟩)
          · exact h4 _ _ a b (.inr ⟨by omega, hq⟩)
theorem InsJ.stop {cf : α → α → Int} {xs zs : List α} {i j : Nat} (hC : Cmp cf) (h : InsJ cf xs zs i j) (hj : j ≤ i) (hi : i < zs.length) (hl : 0 < j → ¬ cf (gd zs j) (gd zs (j - 1)) < 0) : InsO cf xs zs (i + 1) := by
  refine ⟨h.sm, fun q => (h.same q).1, fun tag ht => ?_⟩
  obtain ⟨⟨h1, h2⟩, h3, h4⟩ := h.ord tag ht
  refine ⟨fun p q a b => ?_, fun p q a b c => h4 p q a b (by omega)⟩
  have before : ∀ p, p < j → Rt cf tag (gd zs p) (gd zs j) := by
    intro p hp
    have last : Rt cf tag (gd zs (j - 1)) (gd zs j) := by
      have e1 := hl (by omega)
      have e2 := hC.anti (gd zs (j - 1)) (gd zs j)
      have e3 := h3 (j - 1) (by omega) (by omega)
      unfold Rt
      by_cases e : cf (gd zs (j - 1)) (gd zs j) = 0
      · right; exact ⟨e, e3⟩
      · left; omega
    by_cases e : p = j - 1
    · subst e; exact last
    · exact (h1 p (j - 1) (by omega) (by omega) (by omega) (by omega)).trans hC last
  by_cases e1 : p = j
  · subst e1; exact h2 q a (by omega)
  · by_cases e2 : q = j
    · subst e2; exact before p a
    · exact h1 p q a (by omega) e1 e2
structure Kp (cf : α → α → Int) (xs ys : List α) : Prop where
  sm : SM xs ys
  same : Srt cf xs → ys = xs
theorem Kp.refl {cf : α → α → Int} (xs : List α) : Kp cf xs xs := ⟨.refl _, fun _ => rfl⟩
theorem Kp.trans {cf : α → α → Int} {xs ys zs : List α} (h : Kp cf xs ys) (k : Kp cf ys zs) : Kp cf xs zs := ⟨h.sm.trans k.sm, fun q => by
  have e := h.same q
  subst e
  exact k.same q⟩
theorem Kp.of {cf : α → α → Int} {xs ys : List α} (h : SM xs ys) (hn : ¬ Srt cf xs) : Kp cf xs ys := ⟨h, fun q => absurd q hn⟩
structure InsP (cf : α → α → Int) (xs zs : List α) (i j : Nat) : Prop where
  sm : SM xs zs
  same : Srt cf xs → zs = xs ∧ j = i
theorem InsP.zero {cf : α → α → Int} {xs zs : List α} {i : Nat} (h : Kp cf xs zs) : InsP cf xs zs i i := ⟨h.sm, fun q => ⟨h.same q, rfl⟩⟩
theorem InsP.swap {cf : α → α → Int} {xs zs : List α} {i j : Nat} (h : InsP cf xs zs i j) (hi : j < zs.length) (h0 : 0 < j) (hl : cf (gd zs j) (gd zs (j - 1)) < 0) : InsP cf xs (sw zs j (j - 1)) i (j - 1) := ⟨h.sm.trans (sw_sm (by omega) (by omega)), fun q => by
  obtain ⟨e, rfl⟩ := h.same q
  subst e
  exact absurd hl (q (j - 1) j (by omega) (by omega))⟩
theorem InsP.end' {cf : α → α → Int} {xs zs : List α} {i j : Nat} (h : InsP cf xs zs i j) : Kp cf xs zs := ⟨h.sm, fun q => (h.same q).1⟩
end
end Cv
namespace Cv
open Go
/-! ## keys that are arrays of bytes -/
abbrev ID32 := {l : List UInt8 // l.length = 32}
@[reducible] def aK (k : ID32) : Value := .agg (k.1.map Y).toArray
theorem sameBits_Y (n : Nat) (b : UInt8) : Instr.sameBits n (Y b) (Y b) = true := by
  cases n <;> simp [Y, Instr.sameBits]
theorem keyT_arr {P : Program} {t e : TypeId} (hU : P.underlying t = some (.array 32 e)) (hE : P.underlying e = some (.int .u8)) (hz : Sc P e) : KeyT P t aK where
  check em k w := by
    have h2 := (hz w).2
    have h1 := (hz w).1
    rw [show (10000 : Nat) = 9999 + 1 from rfl, Instr.checkKey]
    simp only [Sem.run_bind, run_underlying hU, Result.andThen]
    simp only [Std.Legacy.Range.forIn_eq_forIn_range', Std.Legacy.Range.size]
    have key : ∀ (m o : Nat), o + m = 32 → (Sem.run P (forIn (List.range' o m 1) PUnit.unit fun i (_ : PUnit) => do
          let s ← sizeOf e
          let a ← Go.part e (k.1.map Y).toArray (i * s)
          Instr.checkKey em 9999 e a
          pure (ForInStep.yield PUnit.unit)) w) = .ok PUnit.unit w := by
      intro m
      induction m with
      | zero => intro o h; simp
      | succ m ih =>
        intro o h
        have ho : o < k.1.length := by have := k.2; omega
        rw [List.range'_succ, List.forIn_cons]
        have p1 : (Go.part e (k.1.map Y).toArray o).run P w = .ok (Y k.1[o]) w := by
          simp [Go.part, h1, ho]
        have p2 : (Instr.checkKey em 9999 e (Y k.1[o])).run P w = .ok () w := by
          rw [show (9999 : Nat) = 9998 + 1 from rfl, Instr.checkKey]; simp [run_underlying hE, Y]
        have := ih (o + 1) (by omega)
        simp only [Sem.run_bind, h2, Result.andThen_ok, Nat.mul_one, p1, p2, Sem.run_pure]
        exact this
    have h3 := key 32 0 (by omega)
    simp at h3 ⊢
    rw [h3]
  find venc k es l w h := by
    rw [run_findKey_eq w (by rw [hU])]
    have key : ∀ (es : List MapEntry) (l : List (ID32 × _)) (i : Nat), es.map (fun e => (e.key, e.val)) = l.map (fun p => (aK p.1, venc p.2)) →
        (Instr.findAsking t (aK k) es i).run P w = .ok ((lookI l k i).map fun p => (p.1, venc p.2)) w := by
      intro es
      induction es with
      | nil => intro l i h; cases l with
        | nil => simp [Instr.findAsking, lookI]
        | cons p l => simp at h
      | cons e0 es ih => intro l i h; cases l with
        | nil => simp at h
        | cons p l =>
          obtain ⟨k', v⟩ := p
          simp only [List.map_cons, List.cons.injEq, Prod.mk.injEq] at h
          obtain ⟨⟨h1, h2⟩, h3⟩ := h
          have hq := run_eqArr hU hE hz (xs := k.1.map (fun b => (b.toNat : Int))) (ys := k'.1.map (fun b => (b.toNat : Int))) (by simpa using k.2) (by simpa using k'.2) w
          rw [← Y_int, ← Y_int] at hq
          simp only [Instr.findAsking, Sem.run_bind, h1, aK, hq, Result.andThen_ok, toNat_inj, lookI]
          by_cases e1 : k' = k
          · subst e1; simp [h2]
          · have : ¬ k.1 = k'.1 := fun e => e1 (Subtype.ext e.symm)
            simp only [this, decide_false, Bool.false_eq_true, if_false, if_neg e1]
            exact ih l (i + 1) h3
    exact key es l 0 h
  same k := by
    rw [show (10000 : Nat) = 9999 + 1 from rfl]
    simp only [aK, Instr.sameBits, beq_self_eq_true, Bool.true_and, List.all_eq_true]
    intro p hp
    have : ∀ (l : List Value), (∀ v ∈ l, ∃ b, v = Y b) → ∀ p ∈ l.zip l, Instr.sameBits 9999 p.1 p.2 = true := by
      intro l
      induction l with
      | nil => intro _ p hp; simp at hp
      | cons v l ih =>
        intro h p hp
        simp only [List.zip_cons_cons, List.mem_cons] at hp
        rcases hp with rfl | hp
        · obtain ⟨b, rfl⟩ := h v (by simp)
          exact sameBits_Y _ b
        · exact ih (fun u hu => h u (by simp [hu])) p hp
    exact this (k.1.map Y) (fun v hv => by
      obtain ⟨b, _, rfl⟩ := List.mem_map.1 hv
      exact ⟨b, rfl⟩) p hp
theorem aK_inj (a b : ID32) (h : aK a = aK b) : a = b := by
  unfold aK at h
  have h2 : (a.1.map Y) = (b.1.map Y) := by injection h with h; injection h
  rw [Y_int, Y_int] at h2
  have h3 : a.1.map (fun b => (b.toNat : Int)) = b.1.map (fun b => (b.toNat : Int)) := (List.map_inj_right (fun x y h => by injection h)).1 h2
  exact Subtype.ext (toNat_inj.1 h3)
section
variable {P : Program} {σ : World} {n : Nat} {Q : Post} {K : Env} {D M : List Asn} {m : Option (List Asn × List Asn)} {ops : Array Oper} {rest : List Oper} {d : Nat} {ty : TypeId} {pos : String} {aft : Array Edge}
variable {κ ν : Type} [DecidableEq κ] {kenc : κ → Value} {venc : ν → Value}
theorem run_equal_nilMap {P : Program} {t kt et : TypeId} {a : Option Nat} (hU : P.underlying t = some (.map kt et)) (w : World) : (Op.equal t (.map a) (.map none)).run P w = .ok a.isNone w := by
  unfold Op.equal
  rw [show Op.maxDepth = 9999 + 1 from rfl, Op.equalIn]
  cases a <;> simp [run_underlying hU]
theorem L.eqlMap {x y : Operand} {t t' kt et : TypeId} {a : Option Nat} (hd : Nat.blt d n = true) (hU : P.underlying t = some (.map kt et)) (hx : ev K x = some (.map a)) (hy : ev K y = some (.map none)) (next : TL m P σ n ops Q rest ((d, .bool a.isNone) :: K) D M) :
    TL m P σ n ops Q (⟨some d, .binOp .eql t x y t', ty, pos, aft, none⟩ :: rest) K D M :=
  L.pureOp hd (fun ρ w s => by
    have h1 := s hx
    have h2 := s hy
    have h3 := run_equal_nilMap (a := a) hU w
    simp only [execOp, h1, h2, eqGuard_at_map, binOp]
    simp [h3]) next
/-! ## delete -/
omit [DecidableEq κ] in
theorem map_erase {α β : Type} {f : α → β} : ∀ {l : List α} {i : Nat}, (l.eraseIdx i).map f = (l.map f).eraseIdx i
  | [], _ => rfl
  | _ :: _, 0 => rfl
  | x :: l, i + 1 => by simp only [List.eraseIdx_cons_succ, List.map_cons, map_erase]
theorem mp_delete {t kt et u ty : TypeId} {b : Nat} {k : κ} {l : List (κ × ν)} {w : World} {N : List Asn} (hU : P.underlying t = some (.map kt et)) (hK : KeyT P kt kenc) (hm : Pull (mp b kenc venc l) M N) (ss : Sat σ D M w) :
    ∃ w', (Builtin.delete_ #[t, u] ty #[.map (some b), kenc k]).run P w = .ok (.tuple #[]) w' ∧ Sat σ D (mp b kenc venc (del l k) :: N) w' := by
  have s1 := ss.ent hm
  obtain ⟨es, s2⟩ := s1.ex (A := fun es h => ∃ clock, h b = some (.map es clock) ∧ es.toList.map (fun e => (e.key, e.val)) = l.map (fun p => (kenc p.1, venc p.2)) ∧ (l.map Prod.fst).Nodup ∧ (es.toList.map (·.born)).Nodup ∧ ∀ e ∈ es.toList, e.born < clock)
  obtain ⟨clock, s3⟩ := s2.ex
  obtain ⟨y, ly, h1, h2, h3, h4, h5⟩ := s3.own (.head _)
  have hb : w.heap[b]? = some (.map es clock) := ly _ _ h1
  have s4 : Sat σ D (pt b (.map es clock) :: N) w := s3.ent (Ent.imp fun h hh => hh.1)
  have hg : (getObj b).run P w = .ok (.map es clock) w := by simp [getObj, Sem.run, hb]
  have c1 := hK.check es.isEmpty k w
  have c2 := hK.find venc k es.toList l w h2
  have so := fun o' => setB_setObj (P := P) (o' := o') hb (by intros; exact fun h => by cases h)
  cases hl : look l k with
  | none =>
    rw [lookI_none hl] at c2
    refine ⟨setB w b (.map es clock), by simp [Builtin.delete_, run_underlying hU, hg, c1, c2, so], (s4.setB Upd.here).ent (Ent.imp fun h hh => ⟨_, _, hh, ?_, nodup_del h3, h4, h5⟩)⟩
    rw [del_none hl]; exact h2
  | some v =>
    obtain ⟨j, h6, h7, _, h8⟩ := lookI_some (i := 0) hl
    rw [h6] at c2
    have hlen : es.toList.length = l.length := by simpa using congrArg List.length h2
    have hj : j < l.length := (List.getElem?_eq_some_iff.1 h7).1
    have hje : j < es.size := by rw [← hlen] at hj; simpa using hj
    have he : (es.eraseIdxIfInBounds j).toList = es.toList.eraseIdx j := by
      rw [Array.eraseIdxIfInBounds, dif_pos hje, Array.toList_eraseIdx]
    refine ⟨setB w b (.map (es.eraseIdxIfInBounds j) clock), by simp [Builtin.delete_, run_underlying hU, hg, c1, c2, so], (s4.setB Upd.here).ent (Ent.imp fun h hh => ⟨_, _, hh, ?_, nodup_del h3, ?_, ?_⟩)⟩
    · rw [he, h8, map_erase, h2, map_erase]
    · rw [he, map_erase]; exact List.Sublist.nodup (List.eraseIdx_sublist _ _) h4
    · intro e hm
      rw [he] at hm
      exact h5 e (List.mem_of_mem_eraseIdx hm)
theorem L.delete {t kt et u : TypeId} {x y : Operand} {b : Nat} {k : κ} {l : List (κ × ν)} {N : List Asn} (hU : P.underlying t = some (.map kt et)) (hK : KeyT P kt kenc)
    (hx : ev K x = some (.map (some b))) (hy : ev K y = some (kenc k)) (hm : Pull (mp b kenc venc l) M N)
    (next : TL none P σ n ops Q rest K D (mp b kenc venc (del l k) :: N)) : TL none P σ n ops Q (⟨none, .call { callee := .builtin .delete, args := #[x, y], argTypes := #[t, u] }, ty, pos, aft, none⟩ :: rest) K D M :=
  L.effV (v := .tuple #[]) (fun a w s ss => by
    obtain ⟨w', hr, hs⟩ := mp_delete (u := u) (ty := ty) (k := k) hU hK hm ss
    refine ⟨w', ?_, hs⟩
    have ex : a.eval x = _ := s.eval hx
    have ey : a.eval y = _ := s.eval hy
    simp only [execOp, resolve, List.map_toArray, List.map_cons, List.map_nil, ex, ey]
    simp [invoke, builtin, hr, go_sem]) next
/-! ## a map that isn't there -/
end
end Cv
namespace Cv
open Go
/-! ## ranges over a function -/
def dall (X : List Asn) : Asn := fun z => Facts X z
theorem T.packD {σ : World} {n : Nat} {G : Act → World → Prop} {K : Env} {D M X : List Asn} (h : SubD X D) (next : T σ n G K (dall X :: D) M) : T σ n G K D M := fun a w s t => by
  obtain ⟨z, k, h1, h2, h3, h4, h5⟩ := t.heap
  refine next a w s ⟨t.os, t.tape, t.output, z, k, h1, h2, h3, fun χ hχ => ?_, h5⟩
  cases hχ with
  | head => exact ⟨z, Hp.le.refl _, fun φ hφ => h4 φ (h φ hφ)⟩
  | tail _ h' => exact h4 χ h'
theorem Sat.unpackD {σ w : World} {D M X : List Asn} (e : dall X ∈ D) (t : Sat σ D M w) : Sat σ (X ++ D) M w := by
  obtain ⟨z, k, h1, h2, h3, h4, h5⟩ := t.heap
  obtain ⟨y, l, hy⟩ := h4 _ e
  refine ⟨t.os, t.tape, t.output, z, k, h1, h2, h3, fun χ hχ => ?_, h5⟩
  rcases List.mem_append.1 hχ with h' | h'
  · obtain ⟨x, lx, hx⟩ := hy χ h'
    exact ⟨x, lx.trans l, hx⟩
  · exact h4 χ h'
theorem T.unpackD {σ : World} {n : Nat} {G : Act → World → Prop} {K : Env} {D M X : List Asn} (e : dall X ∈ D) (next : T σ n G K (X ++ D) M) : T σ n G K D M := fun a w s t => next a w s (t.unpackD e)
@[reducible] def fnY (l : Nat) : Value := .func (.yield l) #[] #[]
def YSpec (P : Program) (l : Nat) (args : List Value) (D0 M0 : List Asn) (R : Value → List Asn → List Asn → Prop) : Prop :=
  ∀ σ D M w, Sat σ (D0 ++ D) (M0 ++ M) w → YieldAt Fence.wide 0 P l args.toArray w (RetPost σ R D M)
structure Iter (P : Program) (f : FuncId) (lb : List Value) {α : Type} (encs : α → List Value) (Ok : List α → α → Prop) (φ A0 A1 : Asn) (S : List α → Prop) : Prop where
  run : ∀ (l : Nat) (ψ : Asn) (J : List α → Asn), (∀ pre x, Ok pre x → YSpec P l (encs x) [ψ] [J pre] (fun v D' M' => v = .bool true ∧ D' = [] ∧ M' = [J (pre ++ [x])])) →
    Spec P f (fnY l :: lb) [φ, ψ] [A0, J []] (fun v D' M' => ∃ xs, S xs ∧ D' = [] ∧ M' = [A1, J xs])
section
variable {P : Program} {σ : World} {n : Nat} {Q : Post} {K : Env} {D M N : List Asn} {ops : Array Oper} {rest : List Oper} {d : Nat} {ty : TypeId} {pos : String} {aft : Array Edge}
theorem L.callY {l : Nat} {y : Operand} {xs : List Operand} {ats : Array TypeId} {args : List Value} {D0 M0 F : List Asn} {R : Value → List Asn → List Asn → Prop} (hd : Nat.blt d n = true) (hok : yok σ = true) (hy : ev K y = some (fnY l)) (hx : evs K xs args) (hD : SubD D0 D) (hM : Sel M0 M F)
    (hS : YSpec P l args D0 M0 R) (next : ∀ v D' M', R v D' M' → TL none P σ n ops Q rest ((d, v) :: K) (D' ++ D) (M' ++ F)) :
    TL none P σ n ops Q (⟨some d, .call { callee := .value y, args := xs.toArray, argTypes := ats }, ty, pos, aft, none⟩ :: rest) K D M := fun a w s t => by
  obtain ⟨fn, tmps, assign, body, h1, h2⟩ := hS σ D F w ((t.facts (SubD.append hD (.refl _))).ent hM)
  have e1 : xs.map a.eval = args := s.evals hx
  have e2 : a.eval y = _ := s.eval hy
  have hr : (execOp a.eval ⟨some d, .call { callee := .value y, args := xs.toArray, argTypes := ats }, ty, pos, aft, none⟩).run P w = .ok (.round l fn tmps assign body) w := by
    simp only [execOp, resolve, Deferred.ofValue, e2, fnY, bind, pure, Sem.bind, invoke, List.map_toArray, e1, Array.empty_append]
    show ((Sem.pure _).bind fun (d : Deferred) => invoke d.target d.args).run P w = _
    simp only [Sem.bind, invoke, Array.empty_append]
    exact h1
  have hw : Region.wanted ⟨some d, .call { callee := .value y, args := xs.toArray, argTypes := ats }, ty, pos, aft, none⟩ (yielded ops a.tmps) = true := rfl
  simp only [wpL]
  rw [if_pos hw]
  refine .inr ⟨hok, fun r => ⟨fun _ _ => trivial, ?_⟩⟩
  rw [Oper.semAt_eq _ _ _ (fun c hc => by cases hc), hr]
  refine ⟨fun e => (by cases e), ?_⟩
  have h3 : RoundIn (fR r) 0 P l fn tmps assign body w (RetPost σ R D F) := h2
  refine h3.mono ?_
  rintro e w' ⟨v, D', M', rfl, hR, hs⟩
  exact next v D' M' hR _ _ (s.put v hd) hs
/-! ### the statement -/
theorem Ent.perm {M N : List Asn} (h : M.Perm N) : Ent M N := by
  induction h with
  | nil => exact Ent.refl _
  | cons A _ ih => exact Ent.cons A ih
  | swap A B l => exact Ent.swap _ _ _
  | trans _ _ h1 h2 => exact h1.trans h2
abbrev lp (l : Nat) (r : Loop) : Asn := pt l (.loop r)
abbrev busy (r : Loop) : Loop := { r with state := .busy }
def BR (P : Program) (l : Nat) (G : Act → World → Prop) : Act → World → Prop := fun a w => ∃ w2, (Instr.beginRound l).run P w = .ok () w2 ∧ G a w2
def NoPost : Post := fun _ _ _ => False
theorem Sat.putL {σ w : World} {D N : List Asn} {l : Nat} {o o' : Obj} (t : Sat σ D (pt l o :: N) w) : Sat σ D (pt l o' :: N) (w.putObj l o') := t.setB (o' := o') Upd.here
theorem T.begin {l : Nat} {r : Loop} {G : Act → World → Prop} (hr : r.state = .ready) (hM : Pull (lp l r) M N) (h : T σ n G K D (lp l (busy r) :: N)) : T σ n (BR P l G) K D M := fun a w s t => by
  have t1 := t.ent hM
  exact ⟨_, run_beginRound (t1.block (.head _)) hr, h a _ s t1.putL⟩
def RPost (P : Program) (σ : World) (l : Nat) (r : Loop) (J : Asn) (D M : List Asn) : Post := roundPost P l (RetPost σ (fun v D' M' => v = .bool true ∧ D' = [] ∧ M' = [all [lp l r, J]]) D M)
theorem T.roundEnd {l : Nat} {r : Loop} {J : Asn} {D0 M0 : List Asn} (hr : r.state = .ready ∧ r.pending = none) (hM : Pull (lp l (busy r)) M N) (hD : SubD D0 D) (hJ : Ent N (J :: M0)) : T σ n (RPost P σ l r J D0 M0 .normal) K D M := fun a w s t => by
  have t1 := t.ent hM
  refine ⟨_, _, run_endRound none (t1.block (.head _)), _, [], _, rfl, ⟨rfl, rfl, rfl⟩, ?_⟩
  have e : ({ busy r with state := if (none : Option Code).isNone then .ready else .done, pending := none } : Loop) = r := by
    obtain ⟨h1, h2⟩ := hr
    cases r; simp at h1 h2; subst h1; subst h2; rfl
  have t2 := t1.putL (o' := .loop r)
  rw [e]
  exact (t2.facts (by simpa using hD)).ent (Ent.trans (Ent.cons _ hJ) (Ent.fold (L := [lp l r, J]) (M := M0)))
theorem foldl_set_size {l : List (Nat × Value)} {ts : Array Value} : (l.foldl (fun ts (q : Nat × Value) => ts.setIfInBounds q.1 q.2) ts).size = ts.size := by
  induction l generalizing ts with
  | nil => rfl
  | cons q l ih => rw [List.foldl_cons, ih]; simp
theorem Slots.params {σ σ' : World} {n : Nat} {K : Env} {a : Act} (s : Slots σ n K a) : ∀ (l : List (Nat × Value)), (∀ q ∈ l, q.1 < n) → ∀ (ts : Array Value), ts.size = n → (∀ t v, get K t = some v → ts.getD t undef = v) → Slots (Cv.dset σ' []) n (l.reverse ++ K) { tmps := l.foldl (fun ts (q : Nat × Value) => ts.setIfInBounds q.1 q.2) ts, defers := [] }
  | l, hl, ts, h1, h2 => by
    refine ⟨rfl, by rw [foldl_set_size]; exact h1, ?_⟩
    have key : ∀ (l : List (Nat × Value)), (∀ q ∈ l, q.1 < n) → ∀ (X : Env) (ts : Array Value), ts.size = n → (∀ t v, get X t = some v → ts.getD t undef = v) → ∀ t v, get (l.reverse ++ X) t = some v → (l.foldl (fun ts (q : Nat × Value) => ts.setIfInBounds q.1 q.2) ts).getD t undef = v := by
      intro l
      induction l with
      | nil => intro _ X ts _ h; simpa using h
      | cons q l ih =>
        intro hl X ts h1 h2 t v
        rw [List.reverse_cons, List.append_assoc, List.foldl_cons]
        refine ih (fun q hq => hl q (List.mem_cons_of_mem _ hq)) (q :: X) _ (by simpa using h1) (fun t v e => ?_) t v
        obtain ⟨d, u⟩ := q
        have hd : d < n := hl (d, u) (List.mem_cons_self ..)
        simp only [get] at e
        simp only [Array.getD_eq_getD_getElem?, Array.getElem?_setIfInBounds]
        by_cases ht : d = t
        · subst ht
          simp only [Nat.beq_refl, cond_true, Option.some.injEq] at e
          subst e
          simp [h1, hd]
        · have hb : Nat.beq d t = false := by
            cases hb : Nat.beq d t with
            | false => rfl
            | true => exact absurd (Nat.eq_of_beq_eq_true hb) ht
          rw [hb, cond_false] at e
          have := h2 t v e
          rw [Array.getD_eq_getD_getElem?] at this
          simp [ht, this]
    exact key l hl K ts h1 h2
theorem Sat.packD {σ w : World} {D M X : List Asn} (h : SubD X D) (t : Sat σ D M w) : Sat σ (dall X :: D) M w := by
  obtain ⟨z, k, h1, h2, h3, h4, h5⟩ := t.heap
  refine ⟨t.os, t.tape, t.output, z, k, h1, h2, h3, fun χ hχ => ?_, h5⟩
  cases hχ with
  | head => exact ⟨z, Hp.le.refl _, fun φ hφ => h4 φ (h φ hφ)⟩
  | tail _ h' => exact h4 χ h'
theorem T.norm2 {G : Act → World → Prop} {X D2 : List Asn} {Z K2 : Env} (h0 : AppL Z K K2) (h1 : AppL X D D2) (h : T σ n G K2 D2 M) : T σ n G (Z ++ K) (X ++ D) M := by subst h0; subst h1; exact h
theorem T.rangeFunc {σ0 : World} {ds : List Deferred} {g : Operand} {ps : List Nat} {assign body : Code} {f : FuncId} {lb : List Value} {α : Type} {encs : α → List Value} {Ok : List α → α → Prop} {φ A0 A1 : Asn} {S : List α → Prop}
    (hI : Iter P f lb encs Ok φ A0 A1 S) (hg : ev K g = some (fnV f lb)) (hrf : (noRF assign && noRF body) = true) (hps : ∀ x, (encs x).length = ps.length) (hpn : ∀ p ∈ ps, p < n) (zk : α → Env) (hz : ∀ x, (ps.zip (encs x)).reverse = zk x) (X : List Asn) (J : List α → Asn) {Kk : Env} {F : List Asn}
    (hk : SubK Kk K) (hφ : SubD [φ] D) (hX : SubD X D) (hM : Sel [A0, J []] M F)
    (round : ∀ (σ1 : World) (l : Nat) (r : Loop) (pre : List α) (x : α) (D' M' : List Asn), Ok pre x → r.state = .ready ∧ r.pending = none →
      T (dset σ1 []) n (wq P assign (Exit.then (BR P l (wq P body (RPost P (dset σ1 []) l r (J (pre ++ [x])) D' M'))) NoPost)) (zk x ++ Kk) (X ++ D') (J pre :: lp l r :: M'))
    (rest : ∀ b xs, S xs → T (dset σ0 ({ target := .collected b, args := #[] } :: ds)) n (Q .normal) K D (J xs :: pt b (.deferred (some [])) :: A1 :: F)) :
    T (dset σ0 ds) n (wq P (Code.rangeFunc g ps.toArray assign body) Q) K D M := fun a w s t0 => by
  have t := t0.packD hX
  let ψ := dall X
  intro r hr
  have hr0 : r = none := by
    rcases hr with h | h
    · exact h
    · cases h
  subst hr0
  refine wpIn_rangeFunc fun fn _ => ?_
  let rc : Loop := { state := .ready, pending := none, fn, tmps := a.tmps, params := ps.toArray, assign, body, defers := w.heap.size }
  have t1 := ((t.alloc (.deferred (some []))).alloc (.loop rc))
  have hl : (w.alloc (.deferred (some []))).heap.size = w.heap.size + 1 := by simp
  rw [hl] at t1
  have hY : ∀ pre x, Ok pre x → YSpec P (w.heap.size + 1) (encs x) [ψ] [all [lp (w.heap.size + 1) rc, J pre]] (fun v D' M' => v = .bool true ∧ D' = [] ∧ M' = [all [lp (w.heap.size + 1) rc, J (pre ++ [x])]]) := by
    intro pre x hok σ1 D1 M1 w1 u
    have u1 : Sat σ1 (ψ :: D1) (lp (w.heap.size + 1) rc :: J pre :: M1) w1 := u.ent Ent.unfold
    have hb := u1.block (.head _)
    refine ⟨_, _, _, _, run_yield hb (by show (encs x).toArray.size = ps.toArray.size; simp only [List.size_toArray]; exact hps x), ?_⟩
    refine (roundIn_of_wpIn (F := Fence.wide) (n := 0) trivial ?_).mono (R := RetPost (dset σ1 []) (fun v D' M' => v = .bool true ∧ D' = [] ∧ M' = [all [lp (w.heap.size + 1) rc, J (pre ++ [x])]]) D1 M1) (fun e w' ⟨v, D', M', h1, h2, h3⟩ => ⟨v, D', M', h1, h2, h3.undset⟩)
    have u2 : Sat σ1 (X ++ D1) (J pre :: lp (w.heap.size + 1) rc :: M1) w1 := ((u1.unpackD (X := X) (.head _)).facts (SubD.append (fun φ h => List.mem_append.2 (.inl h)) (fun φ h => List.mem_append.2 (.inr (List.mem_cons_of_mem _ h))))).ent (Ent.swap _ _ _)
    have s2 := Slots.params (σ' := σ1) (s.sub hk) (ps.zip (encs x)) (fun q hq => hpn _ (List.of_mem_zip hq).1) a.tmps s.size (s.sub hk).val
    rw [hz] at s2
    have key := round σ1 (w.heap.size + 1) rc pre x D1 M1 hok ⟨rfl, rfl⟩ { tmps := _, defers := [] } w1 s2 u2.dset
    simp only [Bool.and_eq_true] at hrf
    have key2 := key (some (w.heap.size + 1)) (.inr hrf.1)
    have e : (Array.foldl (fun tmps x => Array.setIfInBounds tmps x.1 x.2) a.tmps (ps.toArray.zip (encs x).toArray)) = (ps.zip (encs x)).foldl (fun ts (q : Nat × Value) => ts.setIfInBounds q.1 q.2) a.tmps := by
      simp
    show assign.wpIn (fR (some (w.heap.size + 1))) 0 P _ { tmps := Array.foldl (fun tmps x => Array.setIfInBounds tmps x.1 x.2) a.tmps (ps.toArray.zip (encs x).toArray), defers := [] } w1
    rw [e]
    refine wpIn_mono key2 ?_
    intro e a2 w2 h
    cases e with
    | normal =>
      obtain ⟨w3, h1, h2⟩ := h
      exact ⟨w3, h1, h2 _ (.inr hrf.2)⟩
    | _ => exact h.elim
  have hS := hI.run (w.heap.size + 1) ψ (fun pre => all [lp (w.heap.size + 1) rc, J pre]) hY
  have t2 : Sat (dset σ0 ds) ([φ, ψ] ++ D) ([A0, all [lp (w.heap.size + 1) rc, J []]] ++ (pt w.heap.size (.deferred (some [])) :: F)) ((w.alloc (.deferred (some []))).alloc (.loop rc)) := by
    refine (t1.facts ?_).ent ?_
    · intro χ hχ
      rcases List.mem_append.1 hχ with h | h
      · rcases List.mem_cons.1 h with h | h
        · subst h; exact List.mem_cons_of_mem _ (hφ _ (List.mem_cons_self ..))
        · rw [List.mem_singleton.1 h]; exact List.mem_cons_self ..
      · exact List.mem_cons_of_mem _ h
    have e1 : Ent (pt (w.heap.size + 1) (.loop rc) :: pt w.heap.size (.deferred (some [])) :: M) (pt (w.heap.size + 1) (.loop rc) :: pt w.heap.size (.deferred (some [])) :: A0 :: J [] :: F) := Ent.cons _ (Ent.cons _ hM)
    have e2 : Ent (pt (w.heap.size + 1) (.loop rc) :: pt w.heap.size (.deferred (some [])) :: A0 :: J [] :: F) (lp (w.heap.size + 1) rc :: J [] :: A0 :: pt w.heap.size (.deferred (some [])) :: F) := Ent.perm (by
      refine (List.Perm.cons _ ?_)
      exact (List.perm_middle (l₁ := [pt w.heap.size (.deferred (some [])), A0]) (a := J []) (l₂ := F)).trans (List.Perm.cons _ (List.Perm.swap ..)))
    have e3 : Ent (lp (w.heap.size + 1) rc :: J [] :: A0 :: pt w.heap.size (.deferred (some [])) :: F) (all [lp (w.heap.size + 1) rc, J []] :: A0 :: pt w.heap.size (.deferred (some [])) :: F) := Ent.fold (L := [lp (w.heap.size + 1) rc, J []])
    exact ((e1.trans e2).trans e3).trans (Ent.perm (List.Perm.swap ..))
  have hcall := hS.run (dset σ0 ds) D _ _ t2
  refine ⟨w.heap.size + 1, [{ target := .collected w.heap.size, args := #[] }], ((w.alloc (.deferred (some []))).alloc (.loop rc)), { target := .fn (.func f) lb.toArray, args := #[fnY (w.heap.size + 1)] }, ((w.alloc (.deferred (some []))).alloc (.loop rc)), f, (fnY (w.heap.size + 1) :: lb).toArray, ((w.alloc (.deferred (some []))).alloc (.loop rc)), run_enterLoop_outer fn a.tmps ps.toArray assign body, ?_, fun _ _ => trivial, ?_, (fun e => by cases e), ?_⟩
  · have e2 : a.eval g = _ := s.eval hg
    have e3 : (#[] ++ Array.map a.eval #[Operand.const (Value.func (.yield (w.heap.size + 1)) #[] #[])]) = #[fnY (w.heap.size + 1)] := by simp [Act.eval, fnY]
    simp only [resolve, rangeCall, Deferred.ofValue, e2, fnV]
    rw [e3]
    rfl
  · have := hS.fn (fnY (w.heap.size + 1) :: lb).toArray ((w.alloc (.deferred (some []))).alloc (.loop rc))
    simpa [invoke] using this
  · refine (callsIn_wide (n := 0)).2 (hcall.mono ?_)
    rintro e w3 ⟨v, D', M', rfl, ⟨xs, hxs, rfl, rfl⟩, hs⟩
    have hs1 : Sat (dset σ0 ds) D (lp (w.heap.size + 1) rc :: J xs :: A1 :: pt w.heap.size (.deferred (some [])) :: F) w3 := (hs.ent (Ent.perm (List.Perm.swap ..))).ent (Ent.unfold (L := [lp (w.heap.size + 1) rc, J xs]))
    refine ⟨none, _, run_endLoop (hs1.block (.head _)) (by simp [rc]), ?_⟩
    refine rest w.heap.size xs hxs { a with defers := _ } _ ⟨?_, s.size, s.val⟩ ?_
    · show [_] ++ a.defers = _
      rw [s.defers]; rfl
    · have hs2 := (hs1.putL (o' := .loop { rc with state := .exhausted })).undset.dset (ds := { target := .collected w.heap.size, args := #[] } :: ds)
      exact hs2.ent (Ent.skip (Ent.cons _ (Ent.swap _ _ _)))
/-! ### what is kept from round to round -/
def exs {β : Type} (A : β → Asn) : Asn := fun z => ∃ x, A x z
def pur (p : Prop) (A : Asn) : Asn := fun z => p ∧ A z
theorem T.exs {G : Act → World → Prop} {β : Type} {A : β → Asn} (hM : Pull (Cv.exs A) M N) (h : ∀ x, T σ n G K D (A x :: N)) : T σ n G K D M := fun a w s t => by
  obtain ⟨x, t2⟩ := (t.ent hM).ex (A := A)
  exact h x a w s t2
theorem T.pur {G : Act → World → Prop} {p : Prop} {A : Asn} (hM : Pull (Cv.pur p A) M N) (h : p → T σ n G K D (A :: N)) : T σ n G K D M := fun a w s t => by
  have t1 := t.ent hM
  obtain ⟨y, _, hy⟩ := t1.own (.head _)
  exact h hy.1 a w s (t1.ent (Ent.imp fun z hz => hz.2))
theorem exs.in {β : Type} {A : β → Asn} {B : Asn} (x : β) (h : Ent [B] [A x]) : Ent [B] [exs A] := h.trans (Ent.imp fun z hz => ⟨x, hz⟩)
theorem pur.in {p : Prop} {A B : Asn} (hp : p) (h : Ent [B] [A]) : Ent [B] [pur p A] := h.trans (Ent.imp fun z hz => ⟨hp, hz⟩)
theorem T.mkJ {G : Act → World → Prop} {J : Asn} {L : List Asn} (hM : Sel L M N) (e : Ent [all L] [J]) (next : T σ n G K D (J :: N)) : T σ n G K D M :=
  T.drop (Ent.trans (Ent.trans hM Ent.fold) (show Ent ([all L] ++ N) ([J] ++ N) from Ent.append e (Ent.refl N))) next
end
end Cv
namespace Cv
open Go
section
variable {κ ν : Type} [DecidableEq κ] {kenc : κ → Value} {venc : ν → Value}
variable {P : Program} {σ : World} {n : Nat} {Q : Post} {K : Env} {D M N : List Asn} {ops : Array Oper} {rest' : List Oper} {ty : TypeId} {pos : String} {aft : Array Edge}
end
end Cv
namespace Cv
open Go
section
variable {κ ν : Type} [DecidableEq κ] {kenc : κ → Value} {venc : ν → Value} {P : Program} {σ : World} {n : Nat} {Q : Post} {K : Env} {D M : List Asn} {m : Option (List Asn × List Asn)} {ops : Array Oper} {rest : List Oper} {d : Nat} {ty : TypeId} {pos : String} {aft : Array Edge}
theorem L.lookup2 {t kt et : TypeId} {x y : Operand} {b : Nat} {k : κ} {l : List (κ × ν)} {z : Value} (hd : Nat.blt d n = true) (hU : P.underlying t = some (.map kt et)) (hK : KeyT P kt kenc) (hz : ∀ w, (zeroValue et).run P w = .ok z w)
    (hx : ev K x = some (.map (some b))) (hy : ev K y = some (kenc k)) (hm : mp b kenc venc l ∈ M)
    (next : TL m P σ n ops Q rest ((d, .tuple #[((look l k).map venc).getD z, .bool (look l k).isSome]) :: K) D M) : TL m P σ n ops Q (⟨some d, .lookup t x y true, ty, pos, aft, none⟩ :: rest) K D M := by
  cases hl : look l k with
  | none => rw [hl] at next; exact L.lookupN hd hU hK hz hx hy hm hl next
  | some v => rw [hl] at next; exact L.lookupS hd hU hK hz hx hy hm hl next
end
end Cv
namespace Cv
open Go
/-! ## m[k] op= v, where the entry is made first (mapEntry, entryStore) -/
section
variable {P : Program} {σ : World} {n : Nat} {Q : Post} {K : Env} {D M N : List Asn} {m : Option (List Asn × List Asn)} {ops : Array Oper} {rest : List Oper} {d : Nat} {ty : TypeId} {pos : String} {aft : Array Edge}
variable {κ ν : Type} [DecidableEq κ] {kenc : κ → Value} {venc : ν → Value}
def mpS {κ ν : Type} (b : Nat) (kenc : κ → Value) (venc : ν → Value) (l : List (κ × ν)) (k : κ) (st : Nat) : Asn := fun h =>
  ∃ (es : Array MapEntry) (clock j : Nat), h b = some (.map es clock) ∧ es.toList.map (fun e => (e.key, e.val)) = l.map (fun p => (kenc p.1, venc p.2)) ∧ (l.map Prod.fst).Nodup ∧ (es.toList.map (·.born)).Nodup ∧ (∀ e ∈ es.toList, e.born < clock) ∧ (l[j]?).map Prod.fst = some k ∧ (es.toList[j]?).map (fun e : MapEntry => e.born) = some st
omit [DecidableEq κ] in
theorem mpS_mp {b : Nat} {l : List (κ × ν)} {k : κ} {st : Nat} {h : Hp} (H : mpS b kenc venc l k st h) : mp b kenc venc l h := by
  obtain ⟨es, clock, j, h1, h2, h3, h4, h5, _⟩ := H
  exact ⟨es, clock, h1, h2, h3, h4, h5⟩
theorem put_at {l : List (κ × ν)} {k : κ} {j : Nat} (hn : (l.map Prod.fst).Nodup) (hj : (l[j]?).map Prod.fst = some k) (v : ν) : put l k v = l.set j (k, v) := by
  obtain ⟨p, hp, hk⟩ := Option.map_eq_some_iff.1 hj
  have hl : look l k = some p.2 := look_of_mem hn (by subst hk; exact List.mem_of_getElem? hp)
  obtain ⟨i, _, h7, h8, _⟩ := lookI_some (i := 0) hl
  rw [h8]
  have hjl := (List.getElem?_eq_some_iff.1 hp).1
  have hil := (List.getElem?_eq_some_iff.1 h7).1
  have e1 := (List.getElem?_eq_some_iff.1 hp).2
  have e2 := (List.getElem?_eq_some_iff.1 h7).2
  have : i = j := by
    rcases Nat.lt_trichotomy i j with q | q | q
    · exact absurd (by rw [List.getElem_map, List.getElem_map, e1, e2, ← hk]) (List.pairwise_iff_getElem.1 hn i j (by simpa using hil) (by simpa using hjl) q)
    · exact q
    · exact absurd (by rw [List.getElem_map, List.getElem_map, e1, e2, ← hk]) (List.pairwise_iff_getElem.1 hn j i (by simpa using hjl) (by simpa using hil) q)
  rw [this]
theorem mp_entry {t kt et : TypeId} {b : Nat} {k : κ} {l : List (κ × ν)} {w : World} {z0 : ν} (hU : P.underlying t = some (.map kt et)) (hK : KeyT P kt kenc) (hz : ∀ w, (zeroValue et).run P w = .ok (venc z0) w) (hm : Pull (mp b kenc venc l) M N) (ss : Sat σ D M w) :
    ∃ (st : Nat) (w' : World), (Instr.mapEntry t (.map (some b)) (kenc k)).run P w = .ok (.tuple #[venc ((look l k).getD z0), .int .i64 (st : Int)]) w' ∧ Sat σ D (mpS b kenc venc (put l k ((look l k).getD z0)) k st :: N) w' := by
  have s1 := ss.ent hm
  obtain ⟨es, s2⟩ := s1.ex (A := fun es h => ∃ clock, h b = some (.map es clock) ∧ es.toList.map (fun e => (e.key, e.val)) = l.map (fun p => (kenc p.1, venc p.2)) ∧ (l.map Prod.fst).Nodup ∧ (es.toList.map (·.born)).Nodup ∧ ∀ e ∈ es.toList, e.born < clock)
  obtain ⟨clock, s3⟩ := s2.ex
  obtain ⟨y, ly, h1, h2, h3, h4, h5⟩ := s3.own (.head _)
  have hb : w.heap[b]? = some (.map es clock) := ly _ _ h1
  have s4 : Sat σ D (pt b (.map es clock) :: N) w := s3.ent (Ent.imp fun h hh => hh.1)
  have hg : (getObj b).run P w = .ok (.map es clock) w := by simp [getObj, Sem.run, hb]
  have c1 := hK.check false k w
  have c2 := hK.find venc k es.toList l w h2
  have so := fun o' => setB_setObj (P := P) (o' := o') hb (by intros; exact fun h => by cases h)
  have hlen : es.toList.length = l.length := by simpa using congrArg List.length h2
  cases hl : look l k with
  | none =>
    rw [lookI_none hl] at c2
    refine ⟨clock, setB w b (.map (es.push { key := kenc k, val := venc z0, born := clock }) (clock + 1)), by simp [Instr.mapEntry, run_underlying hU, hg, c1, c2, so, hz, goInt], (s4.setB Upd.here).ent (Ent.imp fun h hh => ⟨_, _, l.length, hh, ?_, nodup_put h3, ?_, ?_, ?_, ?_⟩)⟩
    · rw [Option.getD_none, put_none hl]; simp [h2]
    · simp only [Array.toList_push, List.map_append, List.map_cons, List.map_nil]
      refine List.nodup_append.2 ⟨h4, by simp, fun a ha c hc => ?_⟩
      obtain ⟨e, he, rfl⟩ := List.mem_map.1 ha
      simp at hc; subst hc
      have := h5 e he; omega
    · intro e he
      simp only [Array.toList_push, List.mem_append, List.mem_cons, List.not_mem_nil, or_false] at he
      rcases he with he | rfl
      · have := h5 e he; omega
      · show clock < clock + 1; omega
    · rw [Option.getD_none, put_none hl]; simp
    · rw [Array.toList_push, ← hlen]; simp
  | some u =>
    obtain ⟨j, h6, h7, h8, _⟩ := lookI_some (i := 0) hl
    rw [h6] at c2
    have hj : j < l.length := (List.getElem?_eq_some_iff.1 h7).1
    have hje : j < es.size := by rw [← hlen] at hj; simpa using hj
    have hkey : (es[j]'hje).key = kenc k := by
      have := congrArg (fun q : List (Value × Value) => q[j]?) h2
      simp only [List.getElem?_map, h7] at this
      rw [show es.toList[j]? = some (es[j]'hje) from by simp [hje]] at this
      simp at this
      exact this.1
    have hbm : (es.modify j fun e => { e with key := kenc k }).toList.map (·.born) = es.toList.map (·.born) := by
      apply List.ext_getElem?
      intro i
      simp only [List.getElem?_map, Array.getElem?_toList, Array.getElem?_modify]
      by_cases e : j = i
      · subst e; simp [hje]
      · simp [e]
    refine ⟨(es[j]'hje).born, setB w b (.map (es.modify j fun e => { e with key := kenc k }) clock), by simp [Instr.mapEntry, run_underlying hU, hg, c1, c2, so, hje, hkey, Instr.keyThatStays, hK.same, goInt], (s4.setB Upd.here).ent (Ent.imp fun h hh => ⟨_, _, j, hh, ?_, nodup_put h3, ?_, ?_, ?_, ?_⟩)⟩
    · rw [Option.getD_some, h8]
      apply List.ext_getElem?
      intro i
      have := congrArg (fun q : List (Value × Value) => q[i]?) h2
      simp only [List.getElem?_map] at this
      simp only [List.getElem?_map, Array.getElem?_toList, Array.getElem?_modify, List.getElem?_set]
      by_cases e : j = i
      · subst e
        have hv : (es[j]'hje).val = venc u := by
          have := congrArg (fun q : List (Value × Value) => q[j]?) h2
          simp only [List.getElem?_map, h7] at this
          rw [show es.toList[j]? = some (es[j]'hje) from by simp [hje]] at this
          simp at this
          exact this.2
        simp [hje, hj, hv]
      · simpa [e] using this
    · rw [hbm]; exact h4
    · intro e he
      obtain ⟨i, hi, rfl⟩ := List.getElem_of_mem he
      have hi' : i < es.size := by simpa using hi
      simp only [Array.getElem_toList, Array.getElem_modify]
      have := h5 (es[i]'hi') (by simp)
      split <;> simpa using this
    · rw [Option.getD_some, h8]; simp [hj]
    · have := congrArg (fun q : List Nat => q[j]?) hbm
      simp only [List.getElem?_map] at this
      rw [this]; simp [hje]
theorem mp_store {t : TypeId} {b st : Nat} {k : κ} {l : List (κ × ν)} {w : World} {v : ν} (hm : Pull (mpS b kenc venc l k st) M N) (ss : Sat σ D M w) :
    ∃ w', (Instr.entryStore t (.map (some b)) (.int .i64 (st : Int)) (venc v)).run P w = .ok () w' ∧ Sat σ D (mp b kenc venc (put l k v) :: N) w' := by
  have s1 := ss.ent hm
  obtain ⟨es, s2⟩ := s1.ex (A := fun (es : Array MapEntry) h => ∃ (clock j : Nat), h b = some (.map es clock) ∧ es.toList.map (fun e => (e.key, e.val)) = l.map (fun p => (kenc p.1, venc p.2)) ∧ (l.map Prod.fst).Nodup ∧ (es.toList.map (·.born)).Nodup ∧ (∀ e ∈ es.toList, e.born < clock) ∧ (l[j]?).map Prod.fst = some k ∧ (es.toList[j]?).map (fun e : MapEntry => e.born) = some st)
  obtain ⟨clock, s3⟩ := s2.ex
  obtain ⟨j, s3⟩ := s3.ex
  obtain ⟨y, ly, h1, h2, h3, h4, h5, h6, h7⟩ := s3.own (.head _)
  have hb : w.heap[b]? = some (.map es clock) := ly _ _ h1
  have s4 : Sat σ D (pt b (.map es clock) :: N) w := s3.ent (Ent.imp fun h hh => hh.1)
  have hg : (getObj b).run P w = .ok (.map es clock) w := by simp [getObj, Sem.run, hb]
  have so := fun o' => setB_setObj (P := P) (o' := o') hb (by intros; exact fun h => by cases h)
  have hlen : es.toList.length = l.length := by simpa using congrArg List.length h2
  obtain ⟨e0, he0, hst⟩ := Option.map_eq_some_iff.1 h7
  have hje : j < es.size := by simpa using (List.getElem?_eq_some_iff.1 he0).1
  have hj : j < l.length := by rw [← hlen]; simpa using hje
  have hbj : (es[j]'hje).born = st := by
    have := (List.getElem?_eq_some_iff.1 he0).2
    rw [← hst, ← this]; simp
  have hfi : es.findIdx? (fun e => (e.born : Int) == (st : Int)) = some j := by
    rw [Array.findIdx?_eq_some_iff_getElem]
    refine ⟨hje, by simp [hbj], fun i hi => ?_⟩
    have hp := List.pairwise_iff_getElem.1 h4 i j (by simp; omega) (by simpa using hje) hi
    simp only [List.getElem_map, Array.getElem_toList] at hp
    rw [hbj] at hp
    simp
    omega
  have hbm : (es.modify j fun e => { e with val := venc v }).toList.map (·.born) = es.toList.map (·.born) := by
    apply List.ext_getElem?
    intro i
    simp only [List.getElem?_map, Array.getElem?_toList, Array.getElem?_modify]
    by_cases e : j = i
    · subst e; simp [hje]
    · simp [e]
  refine ⟨setB w b (.map (es.modify j fun e => { e with val := venc v }) clock), by simp [Instr.entryStore, hg, asInt, asIntOf, hfi, so], (s4.setB Upd.here).ent (Ent.imp fun h hh => ⟨_, _, hh, ?_, nodup_put h3, ?_, ?_⟩)⟩
  · rw [put_at h3 h6]
    apply List.ext_getElem?
    intro i
    have := congrArg (fun q : List (Value × Value) => q[i]?) h2
    simp only [List.getElem?_map] at this
    simp only [List.getElem?_map, Array.getElem?_toList, Array.getElem?_modify, List.getElem?_set]
    by_cases e : j = i
    · subst e
      obtain ⟨p, hp, hk⟩ := Option.map_eq_some_iff.1 h6
      rw [hp, show es.toList[j]? = some (es[j]'hje) from by simp [hje]] at this
      simp at this
      simp [hje, hj, this.1, hk]
    · simpa [e] using this
  · rw [hbm]; exact h4
  · intro e he
    obtain ⟨i, hi, rfl⟩ := List.getElem_of_mem he
    have hi' : i < es.size := by simpa using hi
    simp only [Array.getElem_toList, Array.getElem_modify]
    have := h5 (es[i]'hi') (by simp)
    split <;> simpa using this
theorem L.mapEntry {t kt et : TypeId} {x y : Operand} {b : Nat} {k : κ} {l : List (κ × ν)} {z0 : ν} (hd : Nat.blt d n = true) (hU : P.underlying t = some (.map kt et)) (hK : KeyT P kt kenc) (hz : ∀ w, (zeroValue et).run P w = .ok (venc z0) w)
    (hx : ev K x = some (.map (some b))) (hy : ev K y = some (kenc k)) (hm : Pull (mp b kenc venc l) M N)
    (next : ∀ st : Nat, TL none P σ n ops Q rest ((d, .tuple #[venc ((look l k).getD z0), .int .i64 (st : Int)]) :: K) D (mpS b kenc venc (put l k ((look l k).getD z0)) k st :: N)) :
    TL none P σ n ops Q (⟨some d, .mapEntry t x y, ty, pos, aft, none⟩ :: rest) K D M :=
  L.valEx hd (fun v D' M' => ∃ st : Nat, v = .tuple #[venc ((look l k).getD z0), .int .i64 (st : Int)] ∧ D' = D ∧ M' = mpS b kenc venc (put l k ((look l k).getD z0)) k st :: N) (fun a w s ss => by
    obtain ⟨st, w', hr, hs⟩ := mp_entry (k := k) hU hK hz hm ss
    refine ⟨_, _, _, w', ?_, ⟨st, rfl, rfl, rfl⟩, hs⟩
    have ex : a.eval x = _ := s.eval hx
    have ey : a.eval y = _ := s.eval hy
    simp only [execOp, ex, ey]
    simp [hr]) (fun v D' M' ⟨st, e1, e2, e3⟩ => by subst e1; subst e2; subst e3; exact next st)
theorem L.entryStore {t : TypeId} {x y u : Operand} {b st : Nat} {k : κ} {l : List (κ × ν)} {v : ν} {uv : Value} (hx : ev K x = some (.map (some b))) (hy : ev K y = some (.int .i64 (st : Int))) (hu : ev K u = some uv) (hv : uv = venc v) (hm : Pull (mpS b kenc venc l k st) M N)
    (next : TL none P σ n ops Q rest K D (mp b kenc venc (put l k v) :: N)) : TL none P σ n ops Q (⟨none, .entryStore t x y u, ty, pos, aft, none⟩ :: rest) K D M :=
  L.eff (fun a w s ss => by
    obtain ⟨w', hr, hs⟩ := mp_store (P := P) (t := t) (v := v) hm ss
    refine ⟨w', ?_, hs⟩
    have ex : a.eval x = _ := s.eval hx
    have ey : a.eval y = _ := s.eval hy
    have eu : a.eval u = _ := s.eval hu
    subst hv
    simp only [execOp, ex, ey, eu]
    simp [hr]) next
theorem L.lookup1E {t kt et : TypeId} {x y : Operand} {b st : Nat} {k k0 : κ} {l : List (κ × ν)} {z : Value} (hd : Nat.blt d n = true) (hU : P.underlying t = some (.map kt et)) (hK : KeyT P kt kenc) (hz : ∀ w, (zeroValue et).run P w = .ok z w)
    (hx : ev K x = some (.map (some b))) (hy : ev K y = some (kenc k)) (hm : mpS b kenc venc l k0 st ∈ M)
    (next : TL m P σ n ops Q rest ((d, ((look l k).map venc).getD z) :: K) D M) : TL m P σ n ops Q (⟨some d, .lookup t x y false, ty, pos, aft, none⟩ :: rest) K D M :=
  L.quiet hd (fun a w s ss => by
    obtain ⟨y', ly, H⟩ := ss.own hm
    obtain ⟨es, clock, h1, h2, _⟩ := mpS_mp H
    have h3 := run_lookup (ok := false) (k := k) hU hK hz (ly _ _ h1) h2
    have ex : a.eval x = _ := s.eval hx
    have ey : a.eval y = _ := s.eval hy
    simp only [execOp, ex, ey]
    simp [h3]) next
end
end Cv
namespace Cv
open Go
/-! ## assertions with values of their own -/
def exP {α : Type} (p : α → Prop) (L : α → List Asn) : Asn := fun h => ∃ x, p x ∧ all (L x) h
theorem ent_exP {α : Type} {p : α → Prop} {L : α → List Asn} {N : List Asn} (x : α) (hp : p x) : Ent (L x ++ N) (exP p L :: N) := Ent.trans Ent.fold (Ent.imp fun _ h => ⟨x, hp, h⟩)
section
variable {P : Program} {σ : World} {n : Nat} {G : Act → World → Prop} {Q : Post} {K : Env} {D M N : List Asn} {α : Type} {p : α → Prop} {L : α → List Asn}
theorem Sat.exP {w : World} (h : Sat σ D (exP p L :: N) w) : ∃ x, p x ∧ Sat σ D (L x ++ N) w := by
  obtain ⟨x, s⟩ := h.ex (A := fun x k => p x ∧ all (L x) k)
  have hp : p x := s.pure fun k a => a.1
  exact ⟨x, hp, (s.ent (Ent.imp fun k a => a.2)).ent Ent.unfold⟩
theorem T.exU (hM : Pull (Cv.exP p L) M N) (next : ∀ x, p x → T σ n G K D (L x ++ N)) : T σ n G K D M := fun a w s t => by
  obtain ⟨x, hp, s2⟩ := (t.ent hM).exP
  exact next x hp a w s s2
theorem T.exF (x : α) (hp : p x) (hM : Sel (L x) M N) (next : T σ n G K D (Cv.exP p L :: N)) : T σ n G K D M := T.drop (Ent.trans hM (ent_exP x hp)) next
variable {m : Option (List Asn × List Asn)} {ops : Array Oper} {l : List Oper}
theorem L.exU (hM : Pull (Cv.exP p L) M N) (next : ∀ x, p x → TL none P σ n ops Q l K D (L x ++ N)) : TL none P σ n ops Q l K D M := T.exU hM next
theorem L.exF (x : α) (hp : p x) (hM : Sel (L x) M N) (next : TL none P σ n ops Q l K D (Cv.exP p L :: N)) : TL none P σ n ops Q l K D M := T.exF x hp hM next
end
end Cv
namespace Cv
open Go
section
variable {κ ν : Type} [DecidableEq κ] {kenc : κ → Value} {venc : ν → Value}
variable {P : Program} {σ : World} {n : Nat} {Q : Post} {K : Env} {D M N : List Asn} {ops : Array Oper} {rest : List Oper} {d : Nat} {ty : TypeId} {pos : String} {aft : Array Edge}
theorem L.clearM {t kt et : TypeId} {x : Operand} {b : Nat} {l : List (κ × ν)} (hU : P.underlying t = some (.map kt et)) (hx : ev K x = some (.map (some b))) (hM : Pull (mp b kenc venc l) M N)
    (next : TL none P σ n ops Q rest K D (mp b kenc venc ([] : List (κ × ν)) :: N)) : TL none P σ n ops Q (⟨none, .call { callee := .builtin .clear, args := #[x], argTypes := #[t] }, ty, pos, aft, none⟩ :: rest) K D M :=
  L.effV (v := .tuple #[]) (fun a w s ss => by
    have ex : a.eval x = _ := s.eval hx
    have s1 := ss.ent hM
    obtain ⟨es, s2⟩ := s1.ex (A := fun es h => ∃ clock, h b = some (.map es clock) ∧ es.toList.map (fun e => (e.key, e.val)) = l.map (fun p => (kenc p.1, venc p.2)) ∧ (l.map Prod.fst).Nodup ∧ (es.toList.map (·.born)).Nodup ∧ ∀ e ∈ es.toList, e.born < clock)
    obtain ⟨clock, s3⟩ := s2.ex
    obtain ⟨y, ly, h1, h2, h3, h4, h5⟩ := s3.own (.head _)
    have hb : w.heap[b]? = some (.map es clock) := ly _ _ h1
    have s4 : Sat σ D (pt b (.map es clock) :: N) w := s3.ent (Ent.imp fun h hh => hh.1)
    have hg : (getObj b).run P w = .ok (.map es clock) w := by simp [getObj, Sem.run, hb]
    have so := fun o' => setB_setObj (P := P) (o' := o') hb (by intros; exact fun h => by cases h)
    refine ⟨setB w b (.map #[] clock), ?_, (s4.setB Upd.here).ent (Ent.imp fun h hh => ⟨#[], clock, hh, rfl, by simp, by simp, by simp⟩)⟩
    simp [execOp, resolve, invoke, builtin, ex, Builtin.clear_, run_underlying hU, hg, so]) next
theorem clone_run {t : TypeId} {b : Nat} {es : Array MapEntry} {clock : Nat} {w : World} (hb : w.heap[b]? = some (.map es clock)) :
    (Extern.MapsClone.clone #[Value.iface t (.map (some b))]).run P w = .ok (Value.iface t (.map (some w.heap.size))) (w.alloc (.map es clock)) := by
  have e : Extern.MapsClone.clone #[Value.iface t (.map (some b))] = (getObj b >>= fun o => match o with
      | .map entries clock => (newObj (.map entries clock) >>= fun n => pure (Value.iface t (.map (some n))))
      | _ => stuck "maps.clone: a map expected") := rfl
  have hg : (getObj b).run P w = .ok (.map es clock) w := by simp [getObj, Sem.run, hb]
  rw [e]
  simp [hg, Result.andThen, go_sem]
theorem L.cloneM {f : FuncId} {ats : Array TypeId} {xs : List Operand} {t : TypeId} {b : Nat} {l : List (κ × ν)} (hX : IsX P f Extern.MapsClone.clone) (hd : Nat.blt d n = true) (hx : evs K xs [Value.iface t (.map (some b))]) (hM : mp b kenc venc l ∈ M)
    (next : ∀ c, TL none P σ n ops Q rest ((d, Value.iface t (.map (some c))) :: K) D (mp c kenc venc l :: M)) :
    TL none P σ n ops Q (⟨some d, .call { callee := .value (.func f), args := xs.toArray, argTypes := ats }, ty, pos, aft, none⟩ :: rest) K D M :=
  L.valEx hd (fun v D' M' => ∃ c, v = Value.iface t (.map (some c)) ∧ D' = D ∧ M' = mp c kenc venc l :: M) (fun a w s ss => by
    obtain ⟨y, ly, es, clock, h1, h2, h3, h4, h5⟩ := ss.own hM
    have hb : w.heap[b]? = some (.map es clock) := ly _ _ h1
    have e1 := hX #[Value.iface t (.map (some b))] w
    have e2 : xs.map a.eval = [Value.iface t (.map (some b))] := s.evals hx
    rw [clone_run hb] at e1
    refine ⟨_, _, _, w.alloc (.map es clock), ?_, ⟨w.heap.size, rfl, rfl, rfl⟩, (ss.alloc _).ent (Ent.imp fun h hh => ⟨es, clock, hh, h2, h3, h4, h5⟩)⟩
    simp only [execOp, resolve, Deferred.ofValue, Act.eval, bind, pure, Sem.bind, invoke, List.map_toArray, e2, Array.empty_append, Array.append_empty]
    exact e1) (fun v D' M' ⟨b, e1, e2, e3⟩ => by subst e1; subst e2; subst e3; exact next b)
theorem L.assertM {t xT k e : TypeId} {x : Operand} {v : Value} {m : Option (List Asn × List Asn)} (hd : Nat.blt d n = true) (hU : P.underlying t = some (.map k e)) (hx : ev K x = some (.iface t v)) (next : TL m P σ n ops Q rest ((d, v) :: K) D M) :
    TL m P σ n ops Q (⟨some d, .typeAssert x xT t false, ty, pos, aft, none⟩ :: rest) K D M :=
  L.pureOp hd (fun ρ w s => by simp [execOp, s hx, Instr.typeAssert, run_underlying hU, go_sem, Result.andThen]) next
theorem L.makeRows {t e : TypeId} {x y : Operand} {kl kc : IntKind} {zl zc : Int} {k sz bs : Nat} {z : Value} {zs : List Value} (hzc : z.cells = zs.toArray) (hd : Nat.blt d n = true) (hU : P.underlying t = some (.slice e)) (hi : (P.info? e).map (fun i => (i.zero, i.size, i.bytes)) = some (some z, sz, bs)) (hz : zs.length = sz)
    (hx : ev K x = some (.int kl zl)) (hy : ev K y = some (.int kc zc)) (hl : zl = (k : Int)) (hc : zc = (k : Int)) (hb : bs * k ≤ 281474976710656) (hk : k ≤ 281474976710656)
    (next : ∀ b, TL none P σ n ops Q rest ((d, .slice (some ⟨b, 0, none⟩) k k) :: K) D (own sz e (some ⟨b, 0, none⟩) k k (List.replicate k zs) :: M)) :
    TL none P σ n ops Q (⟨some d, .makeSlice t x y, ty, pos, aft, none⟩ :: rest) K D M :=
  L.op rfl (fun _ _ _ _ c hc => by cases hc) fun a w s ss K' hK' => by
    subst hl; subst hc; subst hz
    cases hie : P.info? e with
    | none => rw [hie] at hi; cases hi
    | some i =>
      rw [hie] at hi
      simp only [Option.map_some, Option.some.injEq, Prod.mk.injEq] at hi
      obtain ⟨h1, h2, h3⟩ := hi
      have hr := run_make (P := P) w t e i _ hU hie h1 kl kc (k : Int) (k : Int) (by omega) (Int.le_refl _) (by rw [h3]; have q := Int.ofNat_le.2 hb; rw [Int.natCast_mul] at q; exact q) (by omega)
      have e1 := s.eval hx
      have e2 := s.eval hy
      unfold Oper.wp
      have hx' : (execOp a.eval ⟨some d, .makeSlice t x y, ty, pos, aft, none⟩).run P w = .ok (.value (.slice (some ⟨w.heap.size, 0, none⟩) k k)) (w.alloc (.cells (madeCells zs.toArray (k * zs.length)) e)) := by
        simp only [execOp, e1, e2]
        rw [Sem.run_bind, hr]
        simp only [h2, Int.toNat_natCast, hzc]
        rfl
      rw [hx']
      have e3 : (List.replicate k zs).flatten = (madeCells zs.toArray (k * zs.length)).toList := (zeroCells_list k).symm
      have s2 := (ss.alloc (.cells (madeCells zs.toArray (k * zs.length)) e)).ent (Ent.imp fun _ hh => own_of_cl (sz := zs.length) (b := w.heap.size) (e := e) (rows := List.replicate k zs) (len := k) e3 (by simp) (fun r hr => by rw [List.eq_of_mem_replicate hr]) hh)
      exact hK' _ _ (next w.heap.size _ _ (s.put _ hd) s2)
end
theorem T.ret3 {P : Program} {σ : World} {n : Nat} {K : Env} {D M : List Asn} {fn : Func} {t u x : Nat} {R : Value → List Asn → List Asn → Prop} {D0 M0 D' M' : List Asn} {v y z : Value} (hr : fn.results = #[.tmp t, .tmp u, .tmp x]) (hv : get K t = some v) (hy : get K u = some y) (hz : get K x = some z)
    (hR : R (.tuple #[v, y, z]) D' M') (hD : SubD (D' ++ D0) D) (hM : Ent M (M' ++ M0)) : T (dset σ []) n (bPost P fn (RetPost (dset σ []) R D0 M0) .ret) K D M :=
  T.ret0 (.inl rfl) (fun a w s _ => by
    have h : (results fn a.tmps).run P w = .ok (.tuple #[a.tmps.getD t undef, a.tmps.getD u undef, a.tmps.getD x undef]) w := by simp [results, hr]
    rw [h, s.val t v hv, s.val u y hy, s.val x z hz]) hR hD hM
end Cv
