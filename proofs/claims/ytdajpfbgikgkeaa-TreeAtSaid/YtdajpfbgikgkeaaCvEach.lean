/-
  My own library for walks, a text of it (CvEach): separation logic over the kit's Calls; no statement of this seat stands here.
-/
import Derived.Test.YtdajpfbgikgkeaaCvMap
import Derived.Test.YtdajpfbgikgkeaaCvCut
set_option linter.unusedVariables false
set_option linter.unusedSimpArgs false
set_option linter.unusedSectionVars false
namespace Cv
open Go
section
variable {κ ν : Type} [DecidableEq κ]
/-- one assertion for each entry of a list -/
def each {α : Type} (f : α → Asn) (l : List α) : Asn := all (l.map f)
theorem Ent.unfold1 {L : List Asn} : Ent [all L] L := fun h H => by
  have := Ent.unfold (M := []) h H
  rwa [List.append_nil] at this
theorem Ent.fold1 {L : List Asn} : Ent L [all L] := fun h H => by
  have H' : Holds (L ++ []) h := by rwa [List.append_nil]
  exact Ent.fold (M := []) h H'
theorem each_perm_take {f : κ × ν → Asn} {k : κ} {v : ν} : ∀ {l : List (κ × ν)}, look l k = some v → Ent (l.map f) (f (k, v) :: (del l k).map f)
  | [], h => by cases h
  | (k', u) :: l, h => by
    simp only [look] at h
    by_cases e : k' = k
    · rw [if_pos e] at h; cases h; subst e
      simp only [del, if_true, List.map_cons]; exact .refl _
    · rw [if_neg e] at h
      simp only [del, if_neg e, List.map_cons]
      exact (Ent.cons _ (each_perm_take h)).trans (Ent.swap _ _ _)
theorem each_perm_put {f : κ × ν → Asn} {k : κ} {u : ν} : ∀ {l : List (κ × ν)} {v : ν}, look l k = some v → Ent (f (k, u) :: (del l k).map f) ((put l k u).map f)
  | [], _, h => by cases h
  | (k', u') :: l, v, h => by
    simp only [look] at h
    by_cases e : k' = k
    · subst e
      simp only [del, put, if_true, List.map_cons]; exact .refl _
    · rw [if_neg e] at h
      simp only [del, put, if_neg e, List.map_cons]
      exact (Ent.swap _ _ _).trans (Ent.cons _ (each_perm_put h))
theorem each_perm_new {f : κ × ν → Asn} {k : κ} {u : ν} {l : List (κ × ν)} (h : look l k = none) : Ent (f (k, u) :: l.map f) ((put l k u).map f) := by
  rw [put_none h, List.map_append]
  exact Ent.comm [f (k, u)] (l.map f)
theorem each_take {f : κ × ν → Asn} {k : κ} {v : ν} {l : List (κ × ν)} {M : List Asn} (h : look l k = some v) : Ent (each f l :: M) (f (k, v) :: each f (del l k) :: M) :=
  Ent.trans (Ent.append (N := M) (N' := M) (M := [each f l]) (M' := [f (k, v), each f (del l k)]) (Ent.trans Ent.unfold1 (Ent.trans (each_perm_take h) (Ent.cons _ Ent.fold1))) (.refl _)) (.refl _)
theorem each_put {f : κ × ν → Asn} {k : κ} {v u : ν} {l : List (κ × ν)} {M : List Asn} (h : look l k = some v) : Ent (f (k, u) :: each f (del l k) :: M) (each f (put l k u) :: M) :=
  Ent.append (N := M) (N' := M) (M := [f (k, u), each f (del l k)]) (M' := [each f (put l k u)]) (Ent.trans (Ent.cons _ Ent.unfold1) (Ent.trans (each_perm_put h) Ent.fold1)) (.refl _)
theorem each_new {f : κ × ν → Asn} {k : κ} {u : ν} {l : List (κ × ν)} {M : List Asn} (h : look l k = none) : Ent (f (k, u) :: each f l :: M) (each f (put l k u) :: M) :=
  Ent.append (N := M) (N' := M) (M := [f (k, u), each f l]) (M' := [each f (put l k u)]) (Ent.trans (Ent.cons _ Ent.unfold1) (Ent.trans (each_perm_new h) Ent.fold1)) (.refl _)
theorem each_nil {α : Type} {f : α → Asn} {h : Hp} : each f [] h := trivial
theorem mp_put_same {kenc : κ → Value} {venc : ν → Value} {l : List (κ × ν)} {k : κ} {v u : ν} {b : Nat} (h : look l k = some v) (e : venc u = venc v) : mp b kenc venc (put l k u) = mp b kenc venc l := by
  have h1 : (put l k u).map (fun p => (kenc p.1, venc p.2)) = l.map (fun p => (kenc p.1, venc p.2)) := by
    clear b
    induction l with
    | nil => cases h
    | cons p l ih =>
      obtain ⟨k', w⟩ := p
      simp only [look] at h
      by_cases e1 : k' = k
      · rw [if_pos e1] at h; cases h; subst e1; simp [put, e]
      · rw [if_neg e1] at h; simp only [put, if_neg e1, List.map_cons, ih h]
  have h2 : (put l k u).map Prod.fst = l.map Prod.fst := by
    rw [keys_put, if_pos]
    exact List.mem_map.2 ⟨_, mem_of_look h, rfl⟩
  funext z
  simp only [mp, h1, h2]
variable {σ : World} {n : Nat} {G : Act → World → Prop} {K : Env} {D M N : List Asn}
theorem T.eachOpen {f : κ × ν → Asn} {l : List (κ × ν)} {k : κ} {v : ν} (hM : Pull (each f l) M N) (h : look l k = some v) (next : T σ n G K D (f (k, v) :: each f (del l k) :: N)) : T σ n G K D M := T.drop (Ent.trans hM (each_take h)) next
theorem T.eachShut {f : κ × ν → Asn} {l : List (κ × ν)} {k : κ} {v : ν} (u : ν) (h : look l k = some v) (hM : Sel [f (k, u), each f (del l k)] M N) (next : T σ n G K D (each f (put l k u) :: N)) : T σ n G K D M := T.drop (Ent.trans hM (each_put h)) next
theorem T.eachNew {f : κ × ν → Asn} {l : List (κ × ν)} {k : κ} (u : ν) (h : look l k = none) (hM : Sel [f (k, u), each f l] M N) (next : T σ n G K D (each f (put l k u) :: N)) : T σ n G K D M := T.drop (Ent.trans hM (each_new h)) next
theorem put_look {l : List (κ × ν)} {k : κ} {v : ν} (h : look l k = some v) : put l k v = l := by
  induction l with
  | nil => cases h
  | cons p l ih =>
    obtain ⟨k', w⟩ := p
    simp only [look] at h
    by_cases e1 : k' = k
    · rw [if_pos e1] at h; cases h; subst e1; simp [put]
    · rw [if_neg e1] at h; simp only [put, if_neg e1, ih h]
/-- what was taken out for reading is laid back -/
theorem T.eachBack {f : κ × ν → Asn} {l : List (κ × ν)} {k : κ} {v : ν} (h : look l k = some v) (hM : Sel [f (k, v), each f (del l k)] M N) (next : T σ n G K D (each f l :: N)) : T σ n G K D M := T.eachShut v h hM (by rwa [put_look h])
/-- an assertion by its parts -/
theorem T.unfold {A : Asn} (L : List Asn) (hM : Pull A M N) (e : A = all L) {X : List Asn} (hX : AppL L N X) (next : T σ n G K D X) : T σ n G K D M := by
  subst e; subst hX; exact T.drop (Ent.trans hM Ent.unfold) next
theorem T.foldAs (A : Asn) {L : List Asn} (hM : Sel L M N) (e : A = all L) (next : T σ n G K D (A :: N)) : T σ n G K D M := by
  subst e; exact T.drop (Ent.trans hM Ent.fold) next
end
end Cv
