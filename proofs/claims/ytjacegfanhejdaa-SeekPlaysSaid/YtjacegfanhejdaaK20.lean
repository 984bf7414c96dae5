/-
  The walks: the model of a search.
-/
import Derived.Test.YtjacegfanhejdaaSx
import Derived.Test.YtjacegfanhejdaaCvLd
import Derived.Test.YtjacegfanhejdaaProg
import Derived.KernelRfl
set_option linter.unusedVariables false
set_option linter.unusedSimpArgs false
set_option linter.unusedSectionVars false
set_option maxRecDepth 10000
namespace Cv
open Go Go.Proofs
/-! ## a search: the model -/
@[reducible] def oneV (p : Int × Int) : Value := .agg #[.int .i64 p.1, .int .i64 p.2]
@[reducible] def hdrS (g : List UInt8) (o : Int) (m1 m2 : Nat) : List Value := g.map Y ++ [.int .i64 o, .map (some m1), .map (some m2)]
abbrev OfM := List (Int × (Int × Int))
def May (o n : Int) : Prop := n ≠ o ∧ 0 ≤ n ∧ n < 64
instance (o n : Int) : Decidable (May o n) := by unfold May; infer_instance
def meet1 (o : Int) (lo : OfM) (n : Int) : OfM := if look lo n = none ∧ May o n then put lo n (0, 0) else lo
def meetF (o : Int) (lo : OfM) (ns : List Int) : OfM := ns.foldl (meet1 o) lo
def has1 (o : Int) (lh : List (Int × Int)) (n : Int) : List (Int × Int) := if May o n then put lh n 1 else lh
def hasF (o : Int) (lh : List (Int × Int)) (ns : List Int) : List (Int × Int) := ns.foldl (has1 o) lh
def hear1 (o : Int) (lh : List (Int × Int)) (n : Int) : List (Int × Int) := if n ≠ o then put lh n 1 else lh
def hearF (o : Int) (lh : List (Int × Int)) (ns : List Int) : List (Int × Int) := ns.foldl (hear1 o) lh
theorem fold_snoc {α β : Type} [Inhabited α] {f : β → α → β} {b : β} {xs : List α} {i : Nat} {x : α} (h : xs[i]? = some x) : (xs.take (i + 1)).foldl f b = f ((xs.take i).foldl f b) x := by
  rw [List.take_add_one, h, List.foldl_append]; rfl
def stO (lo : OfM) (n : Int) : Int := ((look lo n).getD (0, 0)).1
def liveK (lo : OfM) : List Int := (lo.filter fun p => decide (p.2.1 ≠ 3)).map (·.1)
def cntS (lo : OfM) (st : Int) : Nat := (lo.filter fun p => decide (p.2.1 = st)).length
/-- what all of a map's places are told of: those still to come -/
def RL (lo : OfM) (f : Int × Int → Bool) (rest : List Int) : List Int := rest.filter fun n => f ((look lo n).getD (0, 0))
theorem RL_all {lo : OfM} (hnd : (lo.map Prod.fst).Nodup) (f : Int × Int → Bool) : RL lo f (lo.map Prod.fst) = (lo.filter fun p => f p.2).map (·.1) := by
  have key : ∀ l : OfM, (∀ p ∈ l, look lo p.1 = some p.2) → RL lo f (l.map Prod.fst) = (l.filter fun p => f p.2).map (·.1) := by
    intro l
    induction l with
    | nil => intro _; rfl
    | cons p l ih =>
      intro h
      have hp := h p (by simp)
      have := ih (fun q hq => h q (by simp [hq]))
      unfold RL at this ⊢
      rw [List.map_cons, List.filter_cons, List.filter_cons, hp]
      simp only [Option.getD_some]
      split
      · rw [List.map_cons, this]
      · exact this
  exact key lo (fun p hp => look_of_mem hnd hp)
theorem RL_perm {lo : OfM} {f : Int × Int → Bool} {rest rs : List Int} {k : Int} {v : Int × Int} (hnd : (lo.map Prod.fst).Nodup) (hp : rest.Perm (k :: rs)) (hm : (k, v) ∈ lo) : (RL lo f rest).Perm (if f v then k :: RL lo f rs else RL lo f rs) := by
  have h1 : (RL lo f rest).Perm (RL lo f (k :: rs)) := hp.filter _
  refine h1.trans (.of_eq ?_)
  unfold RL
  rw [List.filter_cons, look_of_mem hnd hm]
  rfl
structure NearI (lo : OfM) (xs rest : List Int) : Prop where
  perm : (xs ++ RL lo (fun p => decide (p.1 ≠ 3)) rest).Perm (liveK lo)
theorem NearI.zero {lo : OfM} (hnd : (lo.map Prod.fst).Nodup) : NearI lo [] (lo.map Prod.fst) := ⟨by rw [List.nil_append, RL_all hnd]; exact .refl _⟩
theorem NearI.step {lo : OfM} {xs rest rs : List Int} {k : Int} {v : Int × Int} (hnd : (lo.map Prod.fst).Nodup) (h : NearI lo xs rest) (hp : rest.Perm (k :: rs)) (hm : (k, v) ∈ lo) : NearI lo (if v.1 ≠ 3 then xs ++ [k] else xs) rs := ⟨by
  have h2 := RL_perm (f := fun p => decide (p.1 ≠ 3)) hnd hp hm
  by_cases hv : v.1 ≠ 3
  · rw [if_pos hv]
    rw [if_pos (by simpa using hv)] at h2
    rw [List.append_assoc]
    exact ((List.Perm.append_left xs h2).symm.trans h.perm)
  · rw [if_neg hv]
    rw [if_neg (by simpa using hv)] at h2
    exact ((List.Perm.append_left xs h2).symm.trans h.perm)⟩
theorem NearI.len {lo : OfM} {xs rest : List Int} (h : NearI lo xs rest) : xs.length ≤ lo.length := by
  have := h.perm.length_eq
  rw [List.length_append] at this
  have h2 : (liveK lo).length ≤ lo.length := by unfold liveK; rw [List.length_map]; exact List.length_filter_le _ _
  omega
theorem NearI.fin {lo : OfM} {xs : List Int} (h : NearI lo xs []) : xs.Perm (liveK lo) := by
  have := h.perm
  rwa [show RL lo _ [] = [] from rfl, List.append_nil] at this
structure CntI (lo : OfM) (st : Int) (c : Nat) (rest : List Int) : Prop where
  eq : c + (RL lo (fun p => decide (p.1 = st)) rest).length = cntS lo st
theorem CntI.zero {lo : OfM} {st : Int} (hnd : (lo.map Prod.fst).Nodup) : CntI lo st 0 (lo.map Prod.fst) := ⟨by rw [RL_all hnd, List.length_map]; unfold cntS; omega⟩
theorem CntI.step {lo : OfM} {st : Int} {c : Nat} {rest rs : List Int} {k : Int} {v : Int × Int} (hnd : (lo.map Prod.fst).Nodup) (h : CntI lo st c rest) (hp : rest.Perm (k :: rs)) (hm : (k, v) ∈ lo) : CntI lo st (if v.1 = st then c + 1 else c) rs := ⟨by
  have h2 := (RL_perm (f := fun p => decide (p.1 = st)) hnd hp hm).length_eq
  have := h.eq
  by_cases hv : v.1 = st
  · rw [if_pos hv]
    rw [if_pos (by simpa using hv), List.length_cons] at h2
    omega
  · rw [if_neg hv]
    rw [if_neg (by simpa using hv)] at h2
    omega⟩
theorem CntI.fin {lo : OfM} {st : Int} {c : Nat} (h : CntI lo st c []) : c = cntS lo st := h.eq
theorem cnt_le (lo : OfM) (st : Int) : cntS lo st ≤ lo.length := List.length_filter_le _ _
/-- those that were waited for too long are silent -/
def lateP (now : Int) (p : Int × Int) : Int × Int := if p.1 = 1 ∧ 8 ≤ now - p.2 then (3, now) else p
def lateF (now : Int) (lo : OfM) : OfM := lo.map fun q => (q.1, lateP now q.2)
def lateR (now : Int) (lo : OfM) (rest : List Int) : OfM := lo.map fun q => if q.1 ∈ rest then q else (q.1, lateP now q.2)
theorem lateR_0 {now : Int} {lo : OfM} : lateR now lo (lo.map Prod.fst) = lo := by
  unfold lateR
  conv => rhs; rw [← List.map_id lo]
  refine List.map_congr_left fun q hq => ?_
  rw [if_pos (List.mem_map_of_mem hq)]; rfl
theorem lateR_fin {now : Int} {lo : OfM} : lateR now lo [] = lateF now lo := by
  unfold lateR lateF
  exact List.map_congr_left fun q hq => by rw [if_neg (by simp)]
theorem lateR_keys {now : Int} {lo : OfM} {rest : List Int} : (lateR now lo rest).map Prod.fst = lo.map Prod.fst := by
  unfold lateR
  rw [List.map_map]
  refine List.map_congr_left fun q _ => ?_
  simp only [Function.comp_apply]; split <;> rfl
theorem put_map {l : OfM} (hnd : (l.map Prod.fst).Nodup) {k : Int} {u v : Int × Int} (h : look l k = some u) : put l k v = l.map fun q => if q.1 = k then (k, v) else q := by
  induction l with
  | nil => cases h
  | cons p l ih =>
    obtain ⟨k', w⟩ := p
    simp only [List.map_cons, List.nodup_cons] at hnd
    simp only [look] at h
    simp only [put, List.map_cons]
    by_cases e : k' = k
    · rw [if_pos e, if_pos e]
      congr 1
      conv => lhs; rw [← List.map_id l]
      refine List.map_congr_left fun q hq => ?_
      rw [if_neg (fun e2 => hnd.1 (by rw [e, ← e2]; exact List.mem_map_of_mem hq))]; rfl
    · rw [if_neg e] at h
      rw [if_neg e, if_neg e, ih hnd.2 h]
theorem late_step {now : Int} {lo : OfM} {rest rs : List Int} {k : Int} {v : Int × Int} (hnd : (lo.map Prod.fst).Nodup) (hr : rest.Nodup) (hp : rest.Perm (k :: rs)) (hm : (k, v) ∈ lateR now lo rest) : (k, v) ∈ lo ∧ (if v.1 = 1 ∧ 8 ≤ now - v.2 then put (lateR now lo rest) k (3, now) else lateR now lo rest) = lateR now lo rs := by
  have hkr : k ∈ rest := hp.mem_iff.2 (by simp)
  have hkrs : k ∉ rs := (List.nodup_cons.1 (hp.nodup_iff.1 hr)).1
  have hm2 : (k, v) ∈ lo := by
    unfold lateR at hm
    obtain ⟨q, hq, he⟩ := List.mem_map.1 hm
    split at he
    · rw [← he]; exact hq
    · rename_i h1
      have : q.1 = k := congrArg Prod.fst he
      rw [this] at h1; exact absurd hkr h1
  refine ⟨hm2, ?_⟩
  have hnd2 : ((lateR now lo rest).map Prod.fst).Nodup := by rw [lateR_keys]; exact hnd
  have key : ∀ q ∈ lo, q.1 ≠ k → (q.1 ∈ rest ↔ q.1 ∈ rs) := fun q _ hk => by
    rw [hp.mem_iff, List.mem_cons]
    exact ⟨fun h => h.resolve_left hk, .inr⟩
  have uniq : ∀ q ∈ lo, q.1 = k → q = (k, v) := fun q hq hk => by
    have h1 := look_of_mem hnd hq
    have h2 := look_of_mem hnd hm2
    rw [hk, h2] at h1
    cases h1
    exact Prod.ext hk rfl
  by_cases hv : v.1 = 1 ∧ 8 ≤ now - v.2
  · rw [if_pos hv, put_map hnd2 (look_of_mem hnd2 hm)]
    unfold lateR
    rw [List.map_map]
    refine List.map_congr_left fun q hq => ?_
    simp only [Function.comp_apply]
    by_cases hk : q.1 = k
    · have hq2 := uniq q hq hk
      subst hq2
      rw [if_pos hkr, if_pos rfl, if_neg hkrs]
      unfold lateP
      rw [if_pos hv]
    · have := key q hq hk
      by_cases hq1 : q.1 ∈ rest
      · rw [if_pos hq1, if_neg hk, if_pos (this.1 hq1)]
      · rw [if_neg hq1, if_neg (fun e => hk e), if_neg (fun e => hq1 (this.2 e))]
  · rw [if_neg hv]
    unfold lateR
    refine List.map_congr_left fun q hq => ?_
    by_cases hk : q.1 = k
    · have hq2 := uniq q hq hk
      subst hq2
      rw [if_pos hkr, if_neg hkrs]
      unfold lateP
      rw [if_neg hv]
    · have := key q hq hk
      by_cases hq1 : q.1 ∈ rest
      · rw [if_pos hq1, if_pos (this.1 hq1)]
      · rw [if_neg hq1, if_neg (fun e => hq1 (this.2 e))]
/-- whom one asks of those that are near -/
def askF (now room : Int) : List Int → OfM → List Int → OfM × List Int
  | [], lo, out => (lo, out)
  | n :: ns, lo, out => if (out.length : Int) < room ∧ stO lo n = 0 then askF now room ns (put lo n (1, now)) (out ++ [n]) else askF now room ns lo out
theorem may_cases (o n : Int) (r : Option (Int × Int)) : r.isSome = true ∨ (r = none ∧ n = o) ∨ (r = none ∧ n ≠ o ∧ ¬ 0 ≤ n) ∨ (r = none ∧ n ≠ o ∧ 0 ≤ n) := by
  cases r with
  | some v => exact .inl rfl
  | none =>
    by_cases h : n = o
    · exact .inr (.inl ⟨rfl, h⟩)
    · by_cases k : 0 ≤ n
      · exact .inr (.inr (.inr ⟨rfl, h, k⟩))
      · exact .inr (.inr (.inl ⟨rfl, h, k⟩))
theorem may3 (o n : Int) : n = o ∨ (n ≠ o ∧ ¬ 0 ≤ n) ∨ (n ≠ o ∧ 0 ≤ n) := by omega
theorem one_get {lo : OfM} {n : Int} : ((look lo n).map oneV).getD (.agg #[.int .i64 0, .int .i64 0]) = oneV ((look lo n).getD (0, 0)) := by cases look lo n <;> rfl
theorem askF_drop {now room : Int} {ys : List Int} {i : Nat} {n : Int} (h : ys[i]? = some n) (lo : OfM) (out : List Int) : askF now room (ys.drop i) lo out = if (out.length : Int) < room ∧ stO lo n = 0 then askF now room (ys.drop (i + 1)) (put lo n (1, now)) (out ++ [n]) else askF now room (ys.drop (i + 1)) lo out := by
  have hi := (List.getElem?_eq_some_iff.1 h).1
  have e : ys.drop i = n :: ys.drop (i + 1) := by rw [List.drop_eq_getElem_cons hi]; congr 1; exact (List.getElem?_eq_some_iff.1 h).2
  rw [e, askF]
theorem look_mem {lo : OfM} {k : Int} {v : Int × Int} (h : look lo k = some v) : (k, v) ∈ lo := mem_of_look h
/-- a letter's cells -/
@[reducible] def letV (kind fr to_ sq : Int) (id : List UInt8) (what : Int) (tx : List UInt8) (pa : Option Addr) (pl pc : Nat) (ha : Option Addr) (hl hc : Nat) : List Value := .int .i64 kind :: .int .i64 fr :: .int .i64 to_ :: .int .i64 sq :: (id.map Y ++ [.int .i64 what, S tx, .slice pa pl pc, .slice ha hl hc])
def inO (lo : OfM) (n : Int) : Int := ((look lo n).getD (0, 0)).2
/-- is it an answer? -/
def Answ (g : List UInt8) (lo : OfM) (kind fr : Int) (id : List UInt8) : Prop := stO lo fr = 1 ∧ kind = 4 ∧ id = g
instance (g : List UInt8) (lo : OfM) (kind fr : Int) (id : List UInt8) : Decidable (Answ g lo kind fr id) := by unfold Answ; infer_instance
theorem hear_cases (r : Option (Int × Int)) (kind : Int) : r.isSome = false ∨ (r.isSome = true ∧ (r.getD (0, 0)).1 ≠ 1) ∨ (r.isSome = true ∧ (r.getD (0, 0)).1 = 1 ∧ kind ≠ 4) ∨ (r.isSome = true ∧ (r.getD (0, 0)).1 = 1 ∧ kind = 4) := by
  cases r with
  | none => exact .inl rfl
  | some v =>
    by_cases h : v.1 = 1
    · by_cases k : kind = 4
      · exact .inr (.inr (.inr ⟨rfl, h, k⟩))
      · exact .inr (.inr (.inl ⟨rfl, h, k⟩))
    · exact .inr (.inl ⟨rfl, h⟩)
theorem st_none {lo : OfM} {n : Int} (h : (look lo n).isSome = false) : stO lo n = 0 := by unfold stO; cases e : look lo n with | none => rfl | some v => rw [e] at h; cases h
def SinceB (lo : OfM) : Prop := ∀ p ∈ lo, 0 ≤ p.2.2 ∧ p.2.2 ≤ 1000000
theorem lateF_keys {now : Int} {lo : OfM} : (lateF now lo).map Prod.fst = lo.map Prod.fst := by unfold lateF; rw [List.map_map]; rfl
def toldB (lo : OfM) (n : Int) : Bool := decide (stO lo n = 2)
theorem filt_take {ys : List Int} {i : Nat} {n : Int} (f : Int → Bool) (h : ys[i]? = some n) : (ys.take (i + 1)).filter f = (ys.take i).filter f ++ if f n = true then [n] else [] := by
  rw [List.take_add_one, h, List.filter_append]
  simp [List.filter_cons]
theorem all_take {ys : List Int} {i : Nat} {n : Int} (f : Int → Bool) (h : ys[i]? = some n) : (ys.take (i + 1)).all f = ((ys.take i).all f && f n) := by
  rw [List.take_add_one, h, List.all_append]
  simp


end Cv
