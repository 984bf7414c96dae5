/-
  My own library for walks, a text of it (CvMap): separation logic over the kit's Calls; no statement of this seat stands here.
-/
import Derived.Test.YtdajpfbgikgkeaaCvSl
set_option linter.unusedVariables false
set_option linter.unusedSimpArgs false
set_option linter.unusedSectionVars false
namespace Cv
open Go

section lists
variable {κ ν : Type} [DecidableEq κ]
def look : List (κ × ν) → κ → Option ν
  | [], _ => none
  | (k', v) :: l, k => if k' = k then some v else look l k
def put : List (κ × ν) → κ → ν → List (κ × ν)
  | [], k, v => [(k, v)]
  | (k', u) :: l, k, v => if k' = k then (k, v) :: l else (k', u) :: put l k v
def del : List (κ × ν) → κ → List (κ × ν)
  | [], _ => []
  | (k', u) :: l, k => if k' = k then l else (k', u) :: del l k
def lookI : List (κ × ν) → κ → Nat → Option (Nat × ν)
  | [], _, _ => none
  | (k', v) :: l, k, i => if k' = k then some (i, v) else lookI l k (i + 1)
theorem lookI_none {l : List (κ × ν)} {k : κ} : ∀ {i : Nat}, look l k = none → lookI l k i = none := by
  induction l with
  | nil => intro i _; rfl
  | cons p l ih =>
    intro i h
    obtain ⟨k', v⟩ := p
    simp only [look, lookI] at h ⊢
    split at h
    · cases h
    · rename_i hne; rw [if_neg hne]; exact ih h
theorem lookI_some {l : List (κ × ν)} {k : κ} {v : ν} : ∀ {i : Nat}, look l k = some v → ∃ j, lookI l k i = some (i + j, v) ∧ l[j]? = some (k, v) ∧ (∀ u, put l k u = l.set j (k, u)) ∧ del l k = l.eraseIdx j := by
  induction l with
  | nil => intro i h; cases h
  | cons p l ih =>
    intro i h
    obtain ⟨k', u⟩ := p
    simp only [look] at h
    by_cases e : k' = k
    · rw [if_pos e] at h
      cases h
      subst e
      exact ⟨0, by simp [lookI], by simp, fun u => by simp [put], by simp [del]⟩
    · rw [if_neg e] at h
      obtain ⟨j, h1, h2, h3, h4⟩ := ih (i := i + 1) h
      exact ⟨j + 1, by simp only [lookI, if_neg e, h1]; congr 2; omega, by simpa using h2, fun w => by simp [put, e, h3], by simp [del, e, h4]⟩
theorem put_none {l : List (κ × ν)} {k : κ} {v : ν} (h : look l k = none) : put l k v = l ++ [(k, v)] := by
  induction l with
  | nil => rfl
  | cons p l ih =>
    obtain ⟨k', u⟩ := p
    simp only [look] at h
    split at h
    · cases h
    · rename_i hne; simp [put, hne, ih h]
theorem del_none {l : List (κ × ν)} {k : κ} (h : look l k = none) : del l k = l := by
  induction l with
  | nil => rfl
  | cons p l ih =>
    obtain ⟨k', u⟩ := p
    simp only [look] at h
    split at h
    · cases h
    · rename_i hne; simp [del, hne, ih h]
theorem look_put {l : List (κ × ν)} {k k' : κ} {v : ν} : look (put l k v) k' = if k' = k then some v else look l k' := by
  induction l with
  | nil => simp only [put, look]; by_cases e : k = k' <;> simp [e, eq_comm]
  | cons p l ih =>
    obtain ⟨k1, u⟩ := p
    simp only [put]
    by_cases e : k1 = k
    · subst e
      simp only [if_true, look]
      by_cases e2 : k1 = k'
      · simp [e2]
      · simp [e2, Ne.symm e2]
    · simp only [if_neg e, look, ih]
      by_cases e2 : k1 = k'
      · subst e2; simp [e]
      · simp [e2]
theorem mem_of_look {l : List (κ × ν)} {k : κ} {v : ν} (h : look l k = some v) : (k, v) ∈ l := by
  induction l with
  | nil => cases h
  | cons p l ih =>
    obtain ⟨k', u⟩ := p
    simp only [look] at h
    split at h
    · rename_i e; cases h; subst e; simp
    · simp [ih h]
theorem look_none_iff {l : List (κ × ν)} {k : κ} : look l k = none ↔ k ∉ l.map Prod.fst := by
  induction l with
  | nil => simp [look]
  | cons p l ih =>
    obtain ⟨k', u⟩ := p
    simp only [look, List.map_cons, List.mem_cons, not_or]
    by_cases e : k' = k
    · simp [e]
    · simp [e, ih, Ne.symm e]
theorem keys_put {l : List (κ × ν)} {k : κ} {v : ν} : (put l k v).map Prod.fst = if k ∈ l.map Prod.fst then l.map Prod.fst else l.map Prod.fst ++ [k] := by
  induction l with
  | nil => simp [put]
  | cons p l ih =>
    obtain ⟨k', u⟩ := p
    simp only [put, List.map_cons, List.mem_cons]
    by_cases e : k' = k
    · simp [e]
    · simp only [if_neg e, List.map_cons, ih, Ne.symm e, false_or]
      split <;> simp
theorem nodup_put {l : List (κ × ν)} {k : κ} {v : ν} (h : (l.map Prod.fst).Nodup) : ((put l k v).map Prod.fst).Nodup := by
  rw [keys_put]
  split
  · exact h
  · rename_i hk
    refine List.nodup_append.2 ⟨h, by simp, fun a ha b hb => ?_⟩
    simp at hb; subst hb; intro e; subst e; exact hk ha
theorem keys_del_sub {l : List (κ × ν)} {k : κ} : ∀ {x}, x ∈ (del l k).map Prod.fst → x ∈ l.map Prod.fst := by
  induction l with
  | nil => intro x h; exact h
  | cons p l ih =>
    intro x h
    obtain ⟨k', u⟩ := p
    simp only [del] at h
    split at h
    · simp only [List.map_cons, List.mem_cons]; exact .inr h
    · simp only [List.map_cons, List.mem_cons] at h ⊢
      rcases h with h | h
      · exact .inl h
      · exact .inr (ih h)
theorem nodup_del {l : List (κ × ν)} {k : κ} (h : (l.map Prod.fst).Nodup) : ((del l k).map Prod.fst).Nodup := by
  induction l with
  | nil => simp [del]
  | cons p l ih =>
    obtain ⟨k', u⟩ := p
    simp only [List.map_cons, List.nodup_cons] at h
    simp only [del]
    split
    · exact h.2
    · simp only [List.map_cons, List.nodup_cons]
      exact ⟨fun hm => h.1 (keys_del_sub hm), ih h.2⟩
theorem look_del {l : List (κ × ν)} {k k' : κ} (h : (l.map Prod.fst).Nodup) : look (del l k) k' = if k' = k then none else look l k' := by
  induction l with
  | nil => simp [del, look]
  | cons p l ih =>
    obtain ⟨k1, u⟩ := p
    simp only [List.map_cons, List.nodup_cons] at h
    simp only [del]
    by_cases e : k1 = k
    · subst e
      simp only [if_true, look]
      by_cases e2 : k' = k1
      · subst e2; simp [look_none_iff.2 h.1]
      · simp [e2, Ne.symm e2]
    · simp only [if_neg e, look, ih h.2]
      by_cases e2 : k1 = k'
      · subst e2; simp [e]
      · simp [e2]
end lists

/-- block b is a map with the entries l (the keys are unlike; each entry's birth is before the clock; births are unlike) -/
def mp {κ ν : Type} (b : Nat) (kenc : κ → Value) (venc : ν → Value) (l : List (κ × ν)) : Asn := fun h =>
  ∃ es clock, h b = some (.map es clock) ∧ es.toList.map (fun e => (e.key, e.val)) = l.map (fun p => (kenc p.1, venc p.2)) ∧ (l.map Prod.fst).Nodup ∧
    (es.toList.map (·.born)).Nodup ∧ ∀ e ∈ es.toList, e.born < clock

/-- what the model does with keys of type t, spelt by kenc -/
structure KeyT {κ : Type} [DecidableEq κ] (P : Program) (t : TypeId) (kenc : κ → Value) : Prop where
  check : ∀ e k w, (Instr.checkKey e 10000 t (kenc k)).run P w = .ok () w
  find : ∀ {ν : Type} (venc : ν → Value) k (es : List MapEntry) (l : List (κ × ν)) w, es.map (fun e => (e.key, e.val)) = l.map (fun p => (kenc p.1, venc p.2)) →
    (Instr.findKey t (kenc k) es).run P w = .ok ((lookI l k 0).map fun p => (p.1, venc p.2)) w
  same : ∀ k, Instr.sameBits 10000 (kenc k) (kenc k) = true

def iK (n : Int) : Value := .int .i64 n
theorem keyT_int {P : Program} {t : TypeId} {q : IntKind} (ht : P.underlying t = some (.int q)) : KeyT P t (fun n : Int => .int q n) where
  check e k w := by rw [show (10000 : Nat) = 9999 + 1 from rfl, Instr.checkKey]; simp [run_underlying ht]
  find venc k es l w h := by
    have key : ∀ (es : List MapEntry) (l : List (Int × _)) (i : Nat), es.map (fun e => (e.key, e.val)) = l.map (fun p => (Value.int q p.1, venc p.2)) →
        Instr.findNow (.int q) (.int q k) es i = some ((lookI l k i).map fun p => (p.1, venc p.2)) := by
      intro es
      induction es with
      | nil => intro l i h; cases l with
        | nil => rfl
        | cons p l => simp at h
      | cons e es ih => intro l i h; cases l with
        | nil => simp at h
        | cons p l =>
          obtain ⟨k', v⟩ := p
          simp only [List.map_cons, List.cons.injEq, Prod.mk.injEq] at h
          obtain ⟨⟨h1, h2⟩, h3⟩ := h
          simp only [Instr.findNow, h1, Instr.sameNow, lookI, if_true]
          by_cases e1 : k' = k
          · simp [e1, h2]
          · have : (k == k') = false := by simp; exact fun h => e1 h.symm
            simp only [this, if_neg e1]
            exact ih l (i + 1) h3
    simp [Instr.findKey, run_underlying ht, key es l 0 h]
  same k := by rw [show (10000 : Nat) = 9999 + 1 from rfl]; simp [Instr.sameBits]

section
variable {P : Program} {σ : World} {n : Nat} {Q : Post} {K : Env} {D M : List Asn} {m : Option (List Asn × List Asn)} {ops : Array Oper} {rest : List Oper} {d : Nat} {ty : TypeId} {pos : String} {aft : Array Edge}
variable {κ ν : Type} [DecidableEq κ] {kenc : κ → Value} {venc : ν → Value}

theorem run_lookup {t kt et : TypeId} {b : Nat} {k : κ} {l : List (κ × ν)} {w : World} {z : Value} {ok : Bool} {es : Array MapEntry} {clock : Nat} (hU : P.underlying t = some (.map kt et)) (hK : KeyT P kt kenc) (hz : ∀ w, (zeroValue et).run P w = .ok z w)
    (hb : w.heap[b]? = some (.map es clock)) (he : es.toList.map (fun e => (e.key, e.val)) = l.map (fun p => (kenc p.1, venc p.2))) :
    (Instr.lookup t (.map (some b)) (kenc k) ok).run P w = .ok (if ok then .tuple #[((look l k).map venc).getD z, .bool (look l k).isSome] else ((look l k).map venc).getD z) w := by
  have h1 := hK.check (es.isEmpty) k w
  have h2 := hK.find venc k es.toList l w he
  have hg : (getObj b).run P w = .ok (.map es clock) w := by simp [getObj, Sem.run, hb]
  cases hl : look l k with
  | none =>
    rw [lookI_none hl] at h2
    simp [Instr.lookup, run_underlying hU, hg, h1, h2, hz]
  | some v =>
    obtain ⟨j, h3, _⟩ := lookI_some (i := 0) hl
    rw [h3] at h2
    simp [Instr.lookup, run_underlying hU, hg, h1, h2]
omit [DecidableEq κ] in
theorem mp_run {b : Nat} {l : List (κ × ν)} {w : World} (h : Sat σ D M w) (hm : mp b kenc venc l ∈ M) : ∃ es clock, w.heap[b]? = some (.map es clock) ∧ es.toList.map (fun e => (e.key, e.val)) = l.map (fun p => (kenc p.1, venc p.2)) := by
  obtain ⟨y, ly, es, clock, h1, h2, _⟩ := h.own hm
  exact ⟨es, clock, ly _ _ h1, h2⟩
theorem L.lookupS {t kt et : TypeId} {x y : Operand} {b : Nat} {k : κ} {l : List (κ × ν)} {z : Value} {v : ν} (hd : Nat.blt d n = true) (hU : P.underlying t = some (.map kt et)) (hK : KeyT P kt kenc) (hz : ∀ w, (zeroValue et).run P w = .ok z w)
    (hx : ev K x = some (.map (some b))) (hy : ev K y = some (kenc k)) (hm : mp b kenc venc l ∈ M) (hl : look l k = some v)
    (next : TL m P σ n ops Q rest ((d, .tuple #[venc v, .bool true]) :: K) D M) : TL m P σ n ops Q (⟨some d, .lookup t x y true, ty, pos, aft, none⟩ :: rest) K D M :=
  L.quiet hd (fun a w s ss => by
    obtain ⟨es, clock, h1, h2⟩ := mp_run ss hm
    have h3 := run_lookup (ok := true) (k := k) hU hK hz h1 h2
    have ex : a.eval x = _ := s.eval hx
    have ey : a.eval y = _ := s.eval hy
    simp only [execOp, ex, ey]
    simp [h3, hl]) next
theorem L.lookupN {t kt et : TypeId} {x y : Operand} {b : Nat} {k : κ} {l : List (κ × ν)} {z : Value} (hd : Nat.blt d n = true) (hU : P.underlying t = some (.map kt et)) (hK : KeyT P kt kenc) (hz : ∀ w, (zeroValue et).run P w = .ok z w)
    (hx : ev K x = some (.map (some b))) (hy : ev K y = some (kenc k)) (hm : mp b kenc venc l ∈ M) (hl : look l k = none)
    (next : TL m P σ n ops Q rest ((d, .tuple #[z, .bool false]) :: K) D M) : TL m P σ n ops Q (⟨some d, .lookup t x y true, ty, pos, aft, none⟩ :: rest) K D M :=
  L.quiet hd (fun a w s ss => by
    obtain ⟨es, clock, h1, h2⟩ := mp_run ss hm
    have h3 := run_lookup (ok := true) (k := k) hU hK hz h1 h2
    have ex : a.eval x = _ := s.eval hx
    have ey : a.eval y = _ := s.eval hy
    simp only [execOp, ex, ey]
    simp [h3, hl]) next
theorem L.lookup1 {t kt et : TypeId} {x y : Operand} {b : Nat} {k : κ} {l : List (κ × ν)} {z : Value} (hd : Nat.blt d n = true) (hU : P.underlying t = some (.map kt et)) (hK : KeyT P kt kenc) (hz : ∀ w, (zeroValue et).run P w = .ok z w)
    (hx : ev K x = some (.map (some b))) (hy : ev K y = some (kenc k)) (hm : mp b kenc venc l ∈ M)
    (next : TL m P σ n ops Q rest ((d, ((look l k).map venc).getD z) :: K) D M) : TL m P σ n ops Q (⟨some d, .lookup t x y false, ty, pos, aft, none⟩ :: rest) K D M :=
  L.quiet hd (fun a w s ss => by
    obtain ⟨es, clock, h1, h2⟩ := mp_run ss hm
    have h3 := run_lookup (ok := false) (k := k) hU hK hz h1 h2
    have ex : a.eval x = _ := s.eval hx
    have ey : a.eval y = _ := s.eval hy
    simp only [execOp, ex, ey]
    simp [h3]) next
theorem setB_setObj {w : World} {b : Nat} {o o' : Obj} (hb : w.heap[b]? = some o) (hc : ∀ c t m, o ≠ .cells c t m) : (setObj b o').run P w = .ok () (setB w b o') := by
  cases o with
  | cells c t m => exact absurd rfl (hc c t m)
  | _ => simp [setObj, Sem.run, hb, setB]
theorem mp_update {t kt et : TypeId} {b : Nat} {k : κ} {l : List (κ × ν)} {w : World} {v : ν} {N : List Asn} (hU : P.underlying t = some (.map kt et)) (hK : KeyT P kt kenc) (hm : Pull (mp b kenc venc l) M N) (ss : Sat σ D M w) :
    ∃ w', (Instr.mapUpdate t (.map (some b)) (kenc k) (venc v)).run P w = .ok () w' ∧ Sat σ D (mp b kenc venc (put l k v) :: N) w' := by
  have s1 := ss.ent hm
  obtain ⟨es, s2⟩ := s1.ex (A := fun es h => ∃ clock, h b = some (.map es clock) ∧ es.toList.map (fun e => (e.key, e.val)) = l.map (fun p => (kenc p.1, venc p.2)) ∧ (l.map Prod.fst).Nodup ∧ (es.toList.map (·.born)).Nodup ∧ ∀ e ∈ es.toList, e.born < clock)
  obtain ⟨clock, s3⟩ := s2.ex
  obtain ⟨y, ly, h1, h2, h3, h4, h5⟩ := s3.own (.head _)
  have hb : w.heap[b]? = some (.map es clock) := ly _ _ h1
  have s4 : Sat σ D (pt b (.map es clock) :: N) w := s3.ent (Ent.imp fun h hh => hh.1)
  have hg : (getObj b).run P w = .ok (.map es clock) w := by simp [getObj, Sem.run, hb]
  have c1 := hK.check false k w
  have c2 := hK.find venc k es.toList l w h2
  have so := fun o' => setB_setObj (P := P) (o' := o') hb (by intros; exact fun h => by cases h)
  cases hl : look l k with
  | none =>
    rw [lookI_none hl] at c2
    refine ⟨setB w b (.map (es.push { key := kenc k, val := venc v, born := clock }) (clock + 1)), by simp [Instr.mapUpdate, run_underlying hU, hg, c1, c2, so], (s4.setB Upd.here).ent (Ent.imp fun h hh => ⟨_, _, hh, ?_, nodup_put h3, ?_, ?_⟩)⟩
    · rw [put_none hl]; simp [h2]
    · simp only [Array.toList_push, List.map_append, List.map_cons, List.map_nil]
      refine List.nodup_append.2 ⟨h4, by simp, fun a ha c hc => ?_⟩
      obtain ⟨e, he, rfl⟩ := List.mem_map.1 ha
      simp at hc; subst hc
      have := h5 e he; omega
    · intro e he
      simp only [Array.toList_push, List.mem_append, List.mem_cons, List.not_mem_nil, or_false] at he
      rcases he with he | rfl
      · have := h5 e he; omega
      · show clock < clock + 1; omega
  | some u =>
    obtain ⟨j, h6, h7, h8, _⟩ := lookI_some (i := 0) hl
    rw [h6] at c2
    have hlen : es.toList.length = l.length := by simpa using congrArg List.length h2
    have hj : j < l.length := (List.getElem?_eq_some_iff.1 h7).1
    have hje : j < es.size := by rw [← hlen] at hj; simpa using hj
    have hkey : (es[j]'hje).key = kenc k := by
      have := congrArg (fun q : List (Value × Value) => q[j]?) h2
      simp only [List.getElem?_map, h7] at this
      rw [show es.toList[j]? = some (es[j]'hje) from by simp [hje]] at this
      simp at this
      exact this.1
    refine ⟨setB w b (.map (es.modify j fun e => { e with key := kenc k, val := venc v }) clock), by simp [Instr.mapUpdate, run_underlying hU, hg, c1, c2, so, hje, hkey, Instr.keyThatStays, hK.same], (s4.setB Upd.here).ent (Ent.imp fun h hh => ⟨_, _, hh, ?_, nodup_put h3, ?_, ?_⟩)⟩
    · rw [h8]
      apply List.ext_getElem?
      intro i
      have := congrArg (fun q : List (Value × Value) => q[i]?) h2
      simp only [List.getElem?_map] at this
      simp only [List.getElem?_map, Array.getElem?_toList, Array.getElem?_modify, List.getElem?_set]
      by_cases e : j = i
      · subst e
        simp [hje, hj]
      · simpa [e] using this
    · have : (es.modify j fun e => { e with key := kenc k, val := venc v }).toList.map (·.born) = es.toList.map (·.born) := by
        apply List.ext_getElem?
        intro i
        simp only [List.getElem?_map, Array.getElem?_toList, Array.getElem?_modify]
        by_cases e : j = i
        · subst e; simp [hje]
        · simp [e]
      rw [this]; exact h4
    · intro e he
      obtain ⟨i, hi, rfl⟩ := List.getElem_of_mem he
      have hi' : i < es.size := by simpa using hi
      simp only [Array.getElem_toList, Array.getElem_modify]
      have := h5 (es[i]'hi') (by simp)
      split <;> simpa using this
theorem L.mapUpdate {t kt et : TypeId} {x y u : Operand} {b : Nat} {k : κ} {l : List (κ × ν)} {v : ν} {uv : Value} {N : List Asn} (hU : P.underlying t = some (.map kt et)) (hK : KeyT P kt kenc)
    (hx : ev K x = some (.map (some b))) (hy : ev K y = some (kenc k)) (hu : ev K u = some uv) (hv : uv = venc v) (hm : Pull (mp b kenc venc l) M N)
    (next : TL none P σ n ops Q rest K D (mp b kenc venc (put l k v) :: N)) : TL none P σ n ops Q (⟨none, .mapUpdate t x y u, ty, pos, aft, none⟩ :: rest) K D M :=
  L.eff (fun a w s ss => by
    obtain ⟨w', hr, hs⟩ := mp_update (k := k) (v := v) hU hK hm ss
    refine ⟨w', ?_, hs⟩
    have ex : a.eval x = _ := s.eval hx
    have ey : a.eval y = _ := s.eval hy
    have eu : a.eval u = _ := s.eval hu
    subst hv
    simp only [execOp, ex, ey, eu]
    simp [hr]) next
omit [DecidableEq κ] in
theorem mp_new {b : Nat} {h : Hp} (H : pt b (.map #[] 0) h) : mp b kenc venc [] h := ⟨#[], 0, H, rfl, by simp, by simp, by simp⟩
theorem L.makeMap {t : TypeId} (kenc : κ → Value) (venc : ν → Value) (hd : Nat.blt d n = true) (next : ∀ b, TL none P σ n ops Q rest ((d, .map (some b)) :: K) D (mp b kenc venc [] :: M)) :
    TL none P σ n ops Q (⟨some d, .makeMap t none, ty, pos, aft, none⟩ :: rest) K D M :=
  L.valEx hd (fun v D' M' => ∃ b, v = .map (some b) ∧ D' = D ∧ M' = mp b kenc venc [] :: M) (fun a w s ss => by
    refine ⟨_, _, _, w.alloc (.map #[] 0), ?_, ⟨w.heap.size, rfl, rfl, rfl⟩, (ss.alloc _).ent (Ent.imp fun h hh => mp_new hh)⟩
    simp [execOp, Instr.makeMap]) (fun v D' M' ⟨b, e1, e2, e3⟩ => by subst e1; subst e2; subst e3; exact next b)
end
end Cv
