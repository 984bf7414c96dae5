/-
  The walks: what names refer to.
-/
import Derived.Test.YtahkbpiinbepcaaGreatBB15
import Derived.Test.YtahkbpiinbepcaaGreatCvLd
import Derived.Test.YtahkbpiinbepcaaGreatProg
import Derived.KernelRfl
set_option linter.unusedVariables false
set_option linter.unusedSimpArgs false
set_option linter.unusedSectionVars false
set_option maxRecDepth 10000
namespace Cv
open Go Go.Proofs
/-! ## keys of a map, sorted -/
theorem gd_of' {α : Type} [Inhabited α] {l : List α} {i : Nat} {y : α} (h : l[i]? = some y) : gd l i = y := by unfold gd; rw [List.getD_eq_getElem?_getD, h]; rfl
structure KeysF (ks us : List ID32) : Prop where
  asc : us.Pairwise (fun x y => x.1 < y.1)
  mem : ∀ z, z ∈ us ↔ z ∈ ks
  len : us.length = ks.length
/-! ## what names refer to -/
theorem put_put {κ ν : Type} [DecidableEq κ] {k : κ} {u v : ν} : ∀ {l : List (κ × ν)}, put (put l k u) k v = put l k v
  | [] => by show (if k = k then _ else _) = _; rw [if_pos rfl]; rfl
  | (k1, w) :: l => by
    by_cases e : k1 = k
    · simp [put, e]
    · simp only [put, if_neg e, put_put]
inductive Rch (os : List Ob) (l : List ID32) : ID32 → Prop
  | base {z : ID32} (h : z ∈ l) : Rch os l z
  | step {x y : ID32} (h : Rch os l x) (k : (lkR os x).2.2 = true) (m : y ∈ (lkR os x).2.1) : Rch os l y
structure RchF (os : List Ob) (l us : List ID32) : Prop where
  asc : us.Pairwise (fun x y => x.1 < y.1)
  mem : ∀ z, z ∈ us ↔ Rch os l z
abbrev SnM := List (ID32 × Int)
def unk (os : List Ob) (ml : SnM) : Nat := (os.filter fun o => decide (o.2.1 ∉ ml.map Prod.fst)).length
theorem filt_lt {α : Type} {p q : α → Bool} : ∀ {l : List α}, (∀ x, q x = true → p x = true) → (∃ x ∈ l, p x = true ∧ q x = false) → (l.filter q).length + 1 ≤ (l.filter p).length
  | [], _, h => by obtain ⟨x, hx, _⟩ := h; cases hx
  | y :: l, hm, h => by
    have mono : (l.filter q).length ≤ (l.filter p).length := by
      clear h
      induction l with
      | nil => exact Nat.le_refl _
      | cons z l ih =>
        rw [List.filter_cons, List.filter_cons]
        by_cases c : q z = true
        · rw [if_pos c, if_pos (hm z c), List.length_cons, List.length_cons]; omega
        · rw [if_neg c]
          split
          · rw [List.length_cons]; omega
          · exact ih
    obtain ⟨x, hx, hp, hq⟩ := h
    rw [List.filter_cons, List.filter_cons]
    rcases List.mem_cons.1 hx with e | e
    · subst e
      rw [if_neg (by rw [hq]; decide), if_pos hp, List.length_cons]; omega
    · have ih := filt_lt (l := l) hm ⟨x, e, hp, hq⟩
      by_cases c : q y = true
      · rw [if_pos c, if_pos (hm y c), List.length_cons, List.length_cons]; omega
      · rw [if_neg c]
        split
        · rw [List.length_cons]; omega
        · exact ih
theorem put_mem {ml : SnM} {k z : ID32} {v : Int} : z ∈ (put ml k v).map Prod.fst ↔ z ∈ ml.map Prod.fst ∨ z = k := by
  rw [keys_put]
  split
  · rename_i h
    constructor
    · exact .inl
    · rintro (q | q)
      · exact q
      · rw [q]; exact h
  · rw [List.mem_append, List.mem_singleton]
theorem unk_le {os : List Ob} {ml : SnM} {k : ID32} {v : Int} : unk os (put ml k v) ≤ unk os ml := by
  unfold unk
  have : ∀ l : List Ob, (l.filter fun o => decide (o.2.1 ∉ (put ml k v).map Prod.fst)).length ≤ (l.filter fun o => decide (o.2.1 ∉ ml.map Prod.fst)).length := fun l => by
    induction l with
    | nil => exact Nat.le_refl _
    | cons z l ih =>
      rw [List.filter_cons, List.filter_cons]
      by_cases c : decide (z.2.1 ∉ (put ml k v).map Prod.fst) = true
      · have c2 : decide (z.2.1 ∉ ml.map Prod.fst) = true := decide_eq_true fun q => of_decide_eq_true c (put_mem.2 (.inl q))
        rw [if_pos c, if_pos c2, List.length_cons, List.length_cons]; omega
      · rw [if_neg c]
        split
        · rw [List.length_cons]; omega
        · exact ih
  exact this os
theorem unk_lt {os : List Ob} {ml : SnM} {k : ID32} {v : Int} {o : Ob} (ho : o ∈ os) (e : o.2.1 = k) (hn : k ∉ ml.map Prod.fst) : unk os (put ml k v) + 1 ≤ unk os ml :=
  filt_lt (fun x hx => decide_eq_true fun q => of_decide_eq_true hx (put_mem.2 (.inl q))) ⟨o, ho, decide_eq_true (by rw [e]; exact hn), decide_eq_false fun q => q (put_mem.2 (.inr e))⟩
theorem lkR_mem {os : List Ob} {x : ID32} (h : (lkR os x).2.2 = true) : ∃ o ∈ os, o.2.1 = x := by
  unfold lkR at h
  cases e : goF os x with
  | none => rw [e] at h; cases h
  | some o => exact ⟨o, goF_mem e⟩
theorem parI_len (s : List UInt8) : (parI s).2.1.length ≤ 8 := by
  unfold parI
  split
  · exact Nat.zero_le _
  · split
    · exact Nat.zero_le _
    · exact idsF_len _ 8
theorem lkR_len (os : List Ob) (x : ID32) : (lkR os x).2.1.length ≤ 8 := by
  unfold lkR
  cases goF os x with
  | none => exact Nat.zero_le _
  | some o =>
    show (if o.1 = 3 then _ else _ : Pt × List ID32 × Bool).2.1.length ≤ 8
    split
    · exact parI_len _
    · exact Nat.zero_le _
structure RcI (os : List Ob) (l st : List ID32) (ml : SnM) (B : Nat) : Prop where
  sr : ∀ z ∈ st, Rch os l z
  ky : ∀ z ∈ ml.map Prod.fst, Rch os l z
  all : ∀ z ∈ l, z ∈ ml.map Prod.fst ∨ z ∈ st
  cl : ∀ x ∈ ml.map Prod.fst, (lkR os x).2.2 = true → ∀ y ∈ (lkR os x).2.1, y ∈ ml.map Prod.fst ∨ y ∈ st
  len : ml.length + 9 * unk os ml + st.length ≤ B
  val : ∀ p ∈ ml, 1 ≤ p.2 ∧ p.2 + 9 * unk os ml + st.length ≤ B + 1
theorem RcI.start {os : List Ob} {l : List ID32} {m : Nat} (h : l.length = m) : RcI os l l [] (9 * os.length + m) where
  sr z h := .base h
  ky z h := by cases h
  all z h := .inr h
  cl x h := by cases h
  len := by
    have : unk os [] ≤ os.length := List.length_filter_le _ _
    simp only [List.length_nil]; omega
  val p h := by cases h
theorem put_vals {ml : SnM} {k : ID32} {v : Int} {p : ID32 × Int} : p ∈ put ml k v → p = (k, v) ∨ p ∈ ml := by
  induction ml with
  | nil => intro h; exact .inl (by simpa [put] using h)
  | cons q ml ih =>
    obtain ⟨k1, u⟩ := q
    intro h
    by_cases e : k1 = k
    · rw [put, if_pos e] at h
      rcases List.mem_cons.1 h with h | h
      · exact .inl h
      · exact .inr (List.mem_cons_of_mem _ h)
    · rw [put, if_neg e] at h
      rcases List.mem_cons.1 h with h | h
      · exact .inr (by rw [h]; exact List.mem_cons_self ..)
      · rcases ih h with h | h
        · exact .inl h
        · exact .inr (List.mem_cons_of_mem _ h)
theorem put_length {ml : SnM} {k : ID32} {v : Int} : (put ml k v).length ≤ ml.length + 1 ∧ (k ∈ ml.map Prod.fst → (put ml k v).length = ml.length) := by
  have h := congrArg List.length (keys_put (l := ml) (k := k) (v := v))
  rw [List.length_map] at h
  split at h
  · rw [List.length_map] at h; exact ⟨by omega, fun _ => h⟩
  · rename_i c
    rw [List.length_append, List.length_map, List.length_singleton] at h
    exact ⟨by omega, fun q => absurd q c⟩
def val0 (ml : SnM) (k : ID32) : Int := (look ml k).getD 0
theorem RcI.w0 {os : List Ob} {l st : List ID32} {ml : SnM} {B : Nat} (h : RcI os l st ml B) (k : ID32) : 0 ≤ val0 ml k ∧ val0 ml k ≤ B + 1 := by
  unfold val0
  cases e : look ml k with
  | none => exact ⟨Int.le_refl _, by show (0 : Int) ≤ _; omega⟩
  | some v =>
    have := h.val _ (mem_of_look e)
    show 0 ≤ v ∧ v ≤ _
    have h1 : (1 : Int) ≤ v := this.1
    have h2 : v + 9 * unk os ml + st.length ≤ B + 1 := this.2
    omega
theorem RcI.isNew {os : List Ob} {l st : List ID32} {ml : SnM} {B : Nat} (h : RcI os l st ml B) {k : ID32} (e : ¬ 1 < val0 ml k + 1) : k ∉ ml.map Prod.fst := by
  unfold val0 at e
  refine look_none_iff.1 ?_
  cases q : look ml k with
  | none => rfl
  | some v =>
    rw [q] at e
    have := (h.val _ (mem_of_look q)).1
    have h1 : (1 : Int) ≤ v := this
    have h2 : ¬ (1 : Int) < v + 1 := e
    omega
theorem RcI.isOld {ml : SnM} {k : ID32} (e : 1 < val0 ml k + 1) : k ∈ ml.map Prod.fst := Decidable.byContradiction fun q => by
  unfold val0 at e
  rw [look_none_iff.2 q] at e
  exact absurd e (by decide)
theorem RcI.old {os : List Ob} {l st : List ID32} {ml : SnM} {B : Nat} {k : ID32} (h : RcI os l (st ++ [k]) ml B) (e : 1 < val0 ml k + 1) : RcI os l st (put ml k (val0 ml k + 1)) B := by
  have hk := RcI.isOld e
  have hw := h.w0 k
  have hu := unk_le (os := os) (ml := ml) (k := k) (v := val0 ml k + 1)
  have hl := h.len
  have hp := (put_length (ml := ml) (k := k) (v := val0 ml k + 1)).2 hk
  rw [List.length_append, List.length_singleton] at hl
  have mv : ∀ z, z ∈ ml.map Prod.fst ∨ z ∈ st ++ [k] → z ∈ (put ml k (val0 ml k + 1)).map Prod.fst ∨ z ∈ st := fun z q => by
    rcases q with q | q
    · exact .inl (put_mem.2 (.inl q))
    · rcases List.mem_append.1 q with q | q
      · exact .inr q
      · exact .inl (put_mem.2 (.inr (List.mem_singleton.1 q)))
  have kk : ∀ z, z ∈ (put ml k (val0 ml k + 1)).map Prod.fst → z ∈ ml.map Prod.fst := fun z q => by
    rcases put_mem.1 q with q | q
    · exact q
    · rw [q]; exact hk
  exact ⟨fun z hz => h.sr z (by simp [hz]), fun z hz => h.ky z (kk z hz), fun z hz => mv z (h.all z hz), fun x hx k1 y hy => mv y (h.cl x (kk x hx) k1 y hy), by omega, fun p hp2 => by
    rcases put_vals hp2 with q | q
    · rw [q]
      show 1 ≤ val0 ml k + 1 ∧ val0 ml k + 1 + 9 * _ + _ ≤ _
      obtain ⟨v, hv⟩ : ∃ v, look ml k = some v := by
        cases c : look ml k with
        | none => exact absurd hk (look_none_iff.1 c)
        | some v => exact ⟨v, rfl⟩
      have hb : val0 ml k + 9 * unk os ml + (st ++ [k]).length ≤ B + 1 := by unfold val0; rw [hv]; exact (h.val _ (mem_of_look hv)).2
      rw [List.length_append, List.length_singleton] at hb
      push_cast at hb
      omega
    · have := h.val p q
      rw [List.length_append, List.length_singleton] at this
      push_cast at this
      omega⟩
theorem RcI.new {os : List Ob} {l st : List ID32} {ml : SnM} {B : Nat} {k : ID32} (h : RcI os l (st ++ [k]) ml B) (e : ¬ 1 < val0 ml k + 1) : RcI os l (st ++ if (lkR os k).2.2 = true then (lkR os k).2.1 else []) (put ml k (val0 ml k + 1)) B ∧ 9 * unk os (put ml k (val0 ml k + 1)) + (st ++ if (lkR os k).2.2 = true then (lkR os k).2.1 else []).length + 1 ≤ 9 * unk os ml + (st ++ [k]).length := by
  have hk := h.isNew e
  have hw := h.w0 k
  have h0 : val0 ml k = 0 := by omega
  have hu := unk_le (os := os) (ml := ml) (k := k) (v := val0 ml k + 1)
  have hl := h.len
  have hp := (put_length (ml := ml) (k := k) (v := val0 ml k + 1)).1
  have h8 := lkR_len os k
  have hkr : Rch os l k := h.sr k (by simp)
  obtain ⟨rs, hrs⟩ : ∃ rs, rs = if (lkR os k).2.2 = true then (lkR os k).2.1 else [] := ⟨_, rfl⟩
  have hm : 9 * unk os (put ml k (val0 ml k + 1)) + (st ++ rs).length + 1 ≤ 9 * unk os ml + (st ++ [k]).length := by
    rw [List.length_append, List.length_append, List.length_singleton]
    by_cases c : (lkR os k).2.2 = true
    · rw [if_pos c] at hrs
      obtain ⟨o, ho, he⟩ := lkR_mem c
      have := unk_lt (v := val0 ml k + 1) ho he hk
      rw [hrs]; omega
    · rw [if_neg c] at hrs
      rw [hrs, List.length_nil]; omega
  have hrm : ∀ y ∈ rs, (lkR os k).2.2 = true ∧ y ∈ (lkR os k).2.1 := fun y hy => by
    rw [hrs] at hy
    split at hy
    · rename_i c; exact ⟨c, hy⟩
    · cases hy
  rw [← hrs]
  have mv : ∀ z, z ∈ ml.map Prod.fst ∨ z ∈ st ++ [k] → z ∈ (put ml k (val0 ml k + 1)).map Prod.fst ∨ z ∈ st ++ rs := fun z q => by
    rcases q with q | q
    · exact .inl (put_mem.2 (.inl q))
    · rcases List.mem_append.1 q with q | q
      · exact .inr (List.mem_append_left _ q)
      · exact .inl (put_mem.2 (.inr (List.mem_singleton.1 q)))
  refine ⟨⟨fun z hz => ?_, fun z hz => ?_, fun z hz => mv z (h.all z hz), fun x hx c y hy => ?_, ?_, fun p hp2 => ?_⟩, hm⟩
  · rcases List.mem_append.1 hz with q | q
    · exact h.sr z (List.mem_append_left _ q)
    · exact .step hkr (hrm z q).1 (hrm z q).2
  · rcases put_mem.1 hz with q | q
    · exact h.ky z q
    · rw [q]; exact hkr
  · rcases put_mem.1 hx with q | q
    · exact mv y (h.cl x q c y hy)
    · subst q
      exact .inr (List.mem_append_right _ (by rw [hrs, if_pos c]; exact hy))
  · omega
  · rcases put_vals hp2 with q | q
    · rw [q]
      show 1 ≤ val0 ml k + 1 ∧ val0 ml k + 1 + 9 * _ + _ ≤ _
      omega
    · have := h.val p q
      omega
theorem RcI.fin {os : List Ob} {l : List ID32} {ml : SnM} {B : Nat} (h : RcI os l [] ml B) (z : ID32) : z ∈ ml.map Prod.fst ↔ Rch os l z := by
  refine ⟨h.ky z, fun r => ?_⟩
  induction r with
  | base hz => exact (h.all _ hz).resolve_right (by simp)
  | step _ k m ih => exact (h.cl _ ih k _ m).resolve_right (by simp)
theorem RcI.out {os : List Ob} {l us : List ID32} {ml : SnM} {B : Nat} (h : RcI os l [] ml B) (k : KeysF (ml.map Prod.fst) us) : RchF os l us := ⟨k.asc, fun z => (k.mem z).trans (h.fin z)⟩
end Cv
set_option maxRecDepth 10000
namespace Cv
open Go Go.Proofs
/-! ## what names refer to: the reference -/
theorem nd_len {α : Type} [DecidableEq α] : ∀ {l m : List α}, l.Nodup → (∀ x ∈ l, x ∈ m) → l.length ≤ m.length
  | [], m, _, _ => Nat.zero_le _
  | x :: l, m, hn, hs => by
    obtain ⟨h1, h2⟩ := List.nodup_cons.1 hn
    have hx := hs x (List.mem_cons_self ..)
    have ih := nd_len (m := m.erase x) h2 fun y hy => (List.mem_erase_of_ne fun e => h1 (by rw [← e]; exact hy)).2 (hs y (List.mem_cons_of_mem _ hy))
    have := List.length_erase_of_mem hx
    have := List.length_pos_of_mem hx
    rw [List.length_cons]; omega
theorem asc_nd {l : List ID32} (h : l.Pairwise (fun x y => x.1 < y.1)) : l.Nodup := h.imp fun {a b} k e => by
  subst e; exact cfI_irr a (cmpB_lt.2 k)
structure GdR (os : List Ob) (l acc : List ID32) : Prop where
  asc : acc.Pairwise (fun x y => x.1 < y.1)
  rch : ∀ z ∈ acc, Rch os l z
  all : ∀ z ∈ l, z ∈ acc
def cand (os : List Ob) (l : List ID32) : List ID32 := l ++ os.flatMap fun o => (lkR os o.2.1).2.1
theorem cand_len (os : List Ob) (l : List ID32) : (cand os l).length ≤ l.length + 8 * os.length := by
  have : ∀ r : List Ob, (r.flatMap fun o => (lkR os o.2.1).2.1).length ≤ 8 * r.length := fun r => by
    induction r with
    | nil => exact Nat.le_refl _
    | cons o r ih => have := lkR_len os o.2.1; rw [List.flatMap_cons, List.length_append, List.length_cons]; omega
  have := this os
  unfold cand; rw [List.length_append]; omega
theorem rch_cand {os : List Ob} {l : List ID32} {z : ID32} (h : Rch os l z) : z ∈ cand os l := by
  cases h with
  | base h => exact List.mem_append_left _ h
  | step h k m =>
    obtain ⟨o, ho, rfl⟩ := lkR_mem k
    exact List.mem_append_right _ (List.mem_flatMap.2 ⟨o, ho, m⟩)
theorem GdR.len {os : List Ob} {l acc : List ID32} (h : GdR os l acc) : acc.length ≤ l.length + 8 * os.length :=
  Nat.le_trans (nd_len (asc_nd h.asc) fun z hz => rch_cand (h.rch z hz)) (cand_len os l)
theorem RchF.len {os : List Ob} {l us : List ID32} (h : RchF os l us) : us.length ≤ l.length + 8 * os.length := GdR.len ⟨h.asc, fun z hz => (h.mem z).1 hz, fun z hz => (h.mem z).2 (.base hz)⟩
theorem GdR.start (os : List Ob) (l : List ID32) : GdR os l (sortF l) := ⟨(sortF_names l).asc, fun z hz => .base (((sortF_names l).mem z).1 hz), fun z hz => ((sortF_names l).mem z).2 hz⟩
theorem GdR.add {os : List Ob} {l acc ys : List ID32} (h : GdR os l acc) (hy : ∀ y ∈ ys, Rch os l y) : GdR os l (ys.foldl withF acc) := by
  obtain ⟨h1, h2⟩ := sortF_go ys acc h.asc
  refine ⟨h1, fun z hz => ?_, fun z hz => (h2 z).2 (.inr (h.all z hz))⟩
  rcases (h2 z).1 hz with q | q
  · exact hy z q
  · exact h.rch z q
def pasS (os : List Ob) (acc : List ID32) (x : ID32) : List ID32 := if (lkR os x).2.2 = true then (lkR os x).2.1.foldl withF acc else acc
def pas (os : List Ob) (s : List ID32) (i : Nat) : List ID32 := (s.take i).foldl (pasS os) s
theorem pasS_t {os : List Ob} {acc : List ID32} {x : ID32} (h : (lkR os x).2.2 = true) : pasS os acc x = (lkR os x).2.1.foldl withF acc := if_pos h
theorem GdR.pasS {os : List Ob} {l acc : List ID32} {x : ID32} (h : GdR os l acc) (hx : Rch os l x) : GdR os l (pasS os acc x) := by
  unfold Cv.pasS
  split
  · rename_i c; exact h.add fun y hy => .step hx c hy
  · exact h
theorem GdR.fold {os : List Ob} {l : List ID32} : ∀ {xs acc : List ID32}, GdR os l acc → (∀ x ∈ xs, Rch os l x) → GdR os l (xs.foldl (Cv.pasS os) acc) ∧ (∀ z ∈ acc, z ∈ xs.foldl (Cv.pasS os) acc) ∧ ∀ x ∈ xs, (lkR os x).2.2 = true → ∀ y ∈ (lkR os x).2.1, y ∈ xs.foldl (Cv.pasS os) acc
  | [], acc, h, _ => ⟨h, fun z hz => hz, fun x hx => by cases hx⟩
  | x :: xs, acc, h, hx => by
    have h1 := h.pasS (hx x (List.mem_cons_self ..))
    obtain ⟨i1, i2, i3⟩ := GdR.fold (xs := xs) h1 fun y hy => hx y (List.mem_cons_of_mem _ hy)
    have up : ∀ z ∈ acc, z ∈ Cv.pasS os acc x := fun z hz => by
      unfold Cv.pasS
      split
      · exact ((sortF_go _ acc h.asc).2 z).2 (.inr hz)
      · exact hz
    refine ⟨i1, fun z hz => i2 z (up z hz), fun y hy k w hw => ?_⟩
    rcases List.mem_cons.1 hy with e | e
    · subst e
      refine i2 w ?_
      rw [pasS_t k]
      exact ((sortF_go _ acc h.asc).2 w).2 (.inl hw)
    · exact i3 y e k w hw
theorem GdR.part {os : List Ob} {l s : List ID32} {i j : Nat} {x : ID32} (h : GdR os l s) (hx : s[i]? = some x) (k : (lkR os x).2.2 = true) : GdR os l (((lkR os x).2.1.take j).foldl withF (pas os s i)) := by
  have h1 := (h.fold (xs := s.take i) fun y hy => h.rch y (List.mem_of_mem_take hy)).1
  exact GdR.add h1 fun y hy => .step (h.rch x (List.mem_of_getElem? hx)) k (List.mem_of_mem_take hy)
theorem GdR.pas {os : List Ob} {l s : List ID32} {i : Nat} (h : GdR os l s) : GdR os l (pas os s i) := (h.fold (xs := s.take i) fun y hy => h.rch y (List.mem_of_mem_take hy)).1

end Cv
