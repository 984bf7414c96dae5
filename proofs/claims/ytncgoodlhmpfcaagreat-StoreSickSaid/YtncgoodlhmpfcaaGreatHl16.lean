/-
  The walks: what names refer to.
-/
import Derived.Test.YtncgoodlhmpfcaaGreatD16
set_option linter.all false
set_option maxRecDepth 10000
namespace Cv
open Go Go.Proofs
theorem asc_uniq : ∀ {l m : List ID32}, l.Pairwise (fun x y => x.1 < y.1) → m.Pairwise (fun x y => x.1 < y.1) → (∀ z, z ∈ l ↔ z ∈ m) → l = m
  | [], [], _, _, _ => rfl
  | [], y :: m, _, _, h => absurd ((h y).2 (List.mem_cons_self ..)) (by simp)
  | x :: l, [], _, _, h => absurd ((h x).1 (List.mem_cons_self ..)) (by simp)
  | x :: l, y :: m, hl, hm, h => by
    obtain ⟨l1, l2⟩ := List.pairwise_cons.1 hl
    obtain ⟨m1, m2⟩ := List.pairwise_cons.1 hm
    have irr : ∀ {a b : ID32}, a.1 < b.1 → a ≠ b := fun {a b} k e => by
      subst e; exact cfI_irr a (cmpB_lt.2 k)
    have e : x = y := by
      rcases List.mem_cons.1 ((h x).1 (List.mem_cons_self ..)) with a | a
      · exact a
      · rcases List.mem_cons.1 ((h y).2 (List.mem_cons_self ..)) with b | b
        · exact b.symm
        · exact absurd (cmpB_lt.2 (l1 y b)) (cfI_swo.asym _ _ (cmpB_lt.2 (m1 x a)))
    subst e
    congr 1
    refine asc_uniq l2 m2 fun z => ⟨fun hz => ?_, fun hz => ?_⟩
    · rcases List.mem_cons.1 ((h z).1 (List.mem_cons_of_mem _ hz)) with a | a
      · exact absurd a.symm (irr (l1 z hz))
      · exact a
    · rcases List.mem_cons.1 ((h z).2 (List.mem_cons_of_mem _ hz)) with a | a
      · exact absurd a.symm (irr (m1 z hz))
      · exact a
/-! ## keys of a map, sorted -/
theorem gd_of' {α : Type} [Inhabited α] {l : List α} {i : Nat} {y : α} (h : l[i]? = some y) : gd l i = y := by unfold gd; rw [List.getD_eq_getElem?_getD, h]; rfl
theorem srt_asc {us : List ID32} (hn : us.Nodup) (h : SrtP cfI us 0 us.length) : us.Pairwise (fun x y => x.1 < y.1) := by
  rw [List.pairwise_iff_getElem]
  intro i j hi hj hij
  have e1 : gd us i = us[i] := gd_of' (List.getElem?_eq_getElem hi)
  have e2 : gd us j = us[j] := gd_of' (List.getElem?_eq_getElem hj)
  have h1 := h i j (Nat.zero_le _) hij hj
  unfold NL at h1
  rw [e1, e2] at h1
  refine cmpB_lt.1 (Decidable.byContradiction fun hc => ?_)
  have := cfI_zero hc h1
  exact absurd ((List.getElem_inj (h₀ := hi) (h₁ := hj) hn).1 this) (by omega)
structure KeysF (ks us : List ID32) : Prop where
  asc : us.Pairwise (fun x y => x.1 < y.1)
  mem : ∀ z, z ∈ us ↔ z ∈ ks
  len : us.length = ks.length
theorem keys_of {ks xs us : List ID32} (hn : ks.Nodup) (h1 : xs.Perm ks) (h2 : us.Perm xs) (h3 : SrtP cfI us 0 us.length) : KeysF ks us := by
  have hp := h2.trans h1
  exact ⟨srt_asc (hp.nodup_iff.2 hn) h3, fun z => hp.mem_iff, hp.length_eq⟩
/-! ## what names refer to -/
theorem put_put {κ ν : Type} [DecidableEq κ] {k : κ} {u v : ν} : ∀ {l : List (κ × ν)}, put (put l k u) k v = put l k v
  | [] => by show (if k = k then _ else _) = _; rw [if_pos rfl]; rfl
  | (k1, w) :: l => by
    by_cases e : k1 = k
    · simp [put, e]
    · simp only [put, if_neg e, put_put]
inductive Rch (os : List Ob) (l : List ID32) : ID32 → Prop
  | base {z : ID32} (h : z ∈ l) : Rch os l z
  | step {x y : ID32} (h : Rch os l x) (k : (lkR os x).2.2 = true) (m : y ∈ (lkR os x).2.1) : Rch os l y
structure RchF (os : List Ob) (l us : List ID32) : Prop where
  asc : us.Pairwise (fun x y => x.1 < y.1)
  mem : ∀ z, z ∈ us ↔ Rch os l z
abbrev SnM := List (ID32 × Int)
def unk (os : List Ob) (ml : SnM) : Nat := (os.filter fun o => decide (o.1 = 3 ∧ o.2.1 ∉ ml.map Prod.fst)).length
theorem filt_lt {α : Type} {p q : α → Bool} : ∀ {l : List α}, (∀ x, q x = true → p x = true) → (∃ x ∈ l, p x = true ∧ q x = false) → (l.filter q).length + 1 ≤ (l.filter p).length
  | [], _, h => by obtain ⟨x, hx, _⟩ := h; cases hx
  | y :: l, hm, h => by
    have mono : (l.filter q).length ≤ (l.filter p).length := by
      clear h
      induction l with
      | nil => exact Nat.le_refl _
      | cons z l ih =>
        rw [List.filter_cons, List.filter_cons]
        by_cases c : q z = true
        · rw [if_pos c, if_pos (hm z c), List.length_cons, List.length_cons]; omega
        · rw [if_neg c]
          split
          · rw [List.length_cons]; omega
          · exact ih
    obtain ⟨x, hx, hp, hq⟩ := h
    rw [List.filter_cons, List.filter_cons]
    rcases List.mem_cons.1 hx with e | e
    · subst e
      rw [if_neg (by rw [hq]; decide), if_pos hp, List.length_cons]; omega
    · have ih := filt_lt (l := l) hm ⟨x, e, hp, hq⟩
      by_cases c : q y = true
      · rw [if_pos c, if_pos (hm y c), List.length_cons, List.length_cons]; omega
      · rw [if_neg c]
        split
        · rw [List.length_cons]; omega
        · exact ih
theorem put_mem {ml : SnM} {k z : ID32} {v : Int} : z ∈ (put ml k v).map Prod.fst ↔ z ∈ ml.map Prod.fst ∨ z = k := by
  rw [keys_put]
  split
  · rename_i h
    constructor
    · exact .inl
    · rintro (q | q)
      · exact q
      · rw [q]; exact h
  · rw [List.mem_append, List.mem_singleton]
theorem unk_le {os : List Ob} {ml : SnM} {k : ID32} {v : Int} : unk os (put ml k v) ≤ unk os ml := by
  unfold unk
  have : ∀ l : List Ob, (l.filter fun o => decide (o.1 = 3 ∧ o.2.1 ∉ (put ml k v).map Prod.fst)).length ≤ (l.filter fun o => decide (o.1 = 3 ∧ o.2.1 ∉ ml.map Prod.fst)).length := fun l => by
    induction l with
    | nil => exact Nat.le_refl _
    | cons z l ih =>
      rw [List.filter_cons, List.filter_cons]
      by_cases c : decide (z.1 = 3 ∧ z.2.1 ∉ (put ml k v).map Prod.fst) = true
      · have c2 : decide (z.1 = 3 ∧ z.2.1 ∉ ml.map Prod.fst) = true := decide_eq_true ⟨(of_decide_eq_true c).1, fun q => (of_decide_eq_true c).2 (put_mem.2 (.inl q))⟩
        rw [if_pos c, if_pos c2, List.length_cons, List.length_cons]; omega
      · rw [if_neg c]
        split
        · rw [List.length_cons]; omega
        · exact ih
  exact this os
theorem unk_lt {os : List Ob} {ml : SnM} {k : ID32} {v : Int} {o : Ob} (ho : o ∈ os) (e : o.2.1 = k) (h3 : o.1 = 3) (hn : k ∉ ml.map Prod.fst) : unk os (put ml k v) + 1 ≤ unk os ml :=
  filt_lt (fun x hx => decide_eq_true ⟨(of_decide_eq_true hx).1, fun q => (of_decide_eq_true hx).2 (put_mem.2 (.inl q))⟩) ⟨o, ho, decide_eq_true ⟨h3, by rw [e]; exact hn⟩, decide_eq_false fun q => q.2 (put_mem.2 (.inr e))⟩
theorem lkR_mem {os : List Ob} {x : ID32} (h : (lkR os x).2.2 = true) : ∃ o ∈ os, o.2.1 = x := by
  unfold lkR at h
  cases e : goF os x with
  | none => rw [e] at h; cases h
  | some o => exact ⟨o, goF_mem e⟩
theorem lkR_mem3 {os : List Ob} {x : ID32} (h : (lkR os x).2.2 = true) : ∃ o ∈ os, o.2.1 = x ∧ o.1 = 3 := by
  unfold lkR at h
  cases e : goF os x with
  | none => rw [e] at h; cases h
  | some o =>
    rw [e] at h
    by_cases c : o.1 = 3
    · exact ⟨o, (goF_mem e).1, (goF_mem e).2, c⟩
    · have h : (if o.1 = 3 then ((parI o.2.2).1, (parI o.2.2).2.1, decide ((parI o.2.2).2.2 = 0)) else (zP, [], false) : Pt × List ID32 × Bool).2.2 = true := h
      rw [if_neg c] at h; cases h
def kn3 (os : List Ob) : Nat := (os.filter fun o => decide (o.1 = 3)).length
theorem unk_kn3 (os : List Ob) : unk os [] ≤ kn3 os := by
  unfold unk kn3
  induction os with
  | nil => exact Nat.le_refl _
  | cons z l ih =>
    rw [List.filter_cons, List.filter_cons]
    by_cases c : z.1 = 3
    · rw [if_pos (decide_eq_true c), List.length_cons]; split
      · rw [List.length_cons]; omega
      · omega
    · rw [if_neg (fun q => c (of_decide_eq_true q)), if_neg (fun q => c (of_decide_eq_true q).1)]; exact ih
theorem parI_len (s : List UInt8) : (parI s).2.1.length ≤ 8 := by
  unfold parI
  split
  · exact Nat.zero_le _
  · split
    · exact Nat.zero_le _
    · exact idsF_len _ 8
theorem lkR_len (os : List Ob) (x : ID32) : (lkR os x).2.1.length ≤ 8 := by
  unfold lkR
  cases goF os x with
  | none => exact Nat.zero_le _
  | some o =>
    show (if o.1 = 3 then _ else _ : Pt × List ID32 × Bool).2.1.length ≤ 8
    split
    · exact parI_len _
    · exact Nat.zero_le _
structure RcI (os : List Ob) (l st : List ID32) (ml : SnM) (B : Nat) : Prop where
  sr : ∀ z ∈ st, Rch os l z
  ky : ∀ z ∈ ml.map Prod.fst, Rch os l z
  all : ∀ z ∈ l, z ∈ ml.map Prod.fst ∨ z ∈ st
  cl : ∀ x ∈ ml.map Prod.fst, (lkR os x).2.2 = true → ∀ y ∈ (lkR os x).2.1, y ∈ ml.map Prod.fst ∨ y ∈ st
  len : ml.length + 9 * unk os ml + st.length ≤ B
  val : ∀ p ∈ ml, 1 ≤ p.2 ∧ p.2 + 9 * unk os ml + st.length ≤ B + 1
theorem RcI.start {os : List Ob} {l : List ID32} {m : Nat} (h : l.length = m) : RcI os l l [] (9 * kn3 os + m) where
  sr z h := .base h
  ky z h := by cases h
  all z h := .inr h
  cl x h := by cases h
  len := by
    have : unk os [] ≤ kn3 os := unk_kn3 os
    simp only [List.length_nil]; omega
  val p h := by cases h
theorem put_vals {ml : SnM} {k : ID32} {v : Int} {p : ID32 × Int} : p ∈ put ml k v → p = (k, v) ∨ p ∈ ml := by
  induction ml with
  | nil => intro h; exact .inl (by simpa [put] using h)
  | cons q ml ih =>
    obtain ⟨k1, u⟩ := q
    intro h
    by_cases e : k1 = k
    · rw [put, if_pos e] at h
      rcases List.mem_cons.1 h with h | h
      · exact .inl h
      · exact .inr (List.mem_cons_of_mem _ h)
    · rw [put, if_neg e] at h
      rcases List.mem_cons.1 h with h | h
      · exact .inr (by rw [h]; exact List.mem_cons_self ..)
      · rcases ih h with h | h
        · exact .inl h
        · exact .inr (List.mem_cons_of_mem _ h)
theorem put_length {ml : SnM} {k : ID32} {v : Int} : (put ml k v).length ≤ ml.length + 1 ∧ (k ∈ ml.map Prod.fst → (put ml k v).length = ml.length) := by
  have h := congrArg List.length (keys_put (l := ml) (k := k) (v := v))
  rw [List.length_map] at h
  split at h
  · rw [List.length_map] at h; exact ⟨by omega, fun _ => h⟩
  · rename_i c
    rw [List.length_append, List.length_map, List.length_singleton] at h
    exact ⟨by omega, fun q => absurd q c⟩
def val0 (ml : SnM) (k : ID32) : Int := (look ml k).getD 0
theorem RcI.w0 {os : List Ob} {l st : List ID32} {ml : SnM} {B : Nat} (h : RcI os l st ml B) (k : ID32) : 0 ≤ val0 ml k ∧ val0 ml k ≤ B + 1 := by
  unfold val0
  cases e : look ml k with
  | none => exact ⟨Int.le_refl _, by show (0 : Int) ≤ _; omega⟩
  | some v =>
    have := h.val _ (xR e)
    show 0 ≤ v ∧ v ≤ _
    have h1 : (1 : Int) ≤ v := this.1
    have h2 : v + 9 * unk os ml + st.length ≤ B + 1 := this.2
    omega
theorem RcI.isNew {os : List Ob} {l st : List ID32} {ml : SnM} {B : Nat} (h : RcI os l st ml B) {k : ID32} (e : ¬ 1 < val0 ml k + 1) : k ∉ ml.map Prod.fst := by
  unfold val0 at e
  refine look_none_iff.1 ?_
  cases q : look ml k with
  | none => rfl
  | some v =>
    rw [q] at e
    have := (h.val _ (xR q)).1
    have h1 : (1 : Int) ≤ v := this
    have h2 : ¬ (1 : Int) < v + 1 := e
    omega
theorem RcI.isOld {ml : SnM} {k : ID32} (e : 1 < val0 ml k + 1) : k ∈ ml.map Prod.fst := Decidable.byContradiction fun q => by
  unfold val0 at e
  rw [look_none_iff.2 q] at e
  exact absurd e (by decide)
theorem RcI.old {os : List Ob} {l st : List ID32} {ml : SnM} {B : Nat} {k : ID32} (h : RcI os l (st ++ [k]) ml B) (e : 1 < val0 ml k + 1) : RcI os l st (put ml k (val0 ml k + 1)) B := by
  have hk := RcI.isOld e
  have hw := h.w0 k
  have hu := unk_le (os := os) (ml := ml) (k := k) (v := val0 ml k + 1)
  have hl := h.len
  have hp := (put_length (ml := ml) (k := k) (v := val0 ml k + 1)).2 hk
  rw [List.length_append, List.length_singleton] at hl
  have mv : ∀ z, z ∈ ml.map Prod.fst ∨ z ∈ st ++ [k] → z ∈ (put ml k (val0 ml k + 1)).map Prod.fst ∨ z ∈ st := fun z q => by
    rcases q with q | q
    · exact .inl (put_mem.2 (.inl q))
    · rcases List.mem_append.1 q with q | q
      · exact .inr q
      · exact .inl (put_mem.2 (.inr (List.mem_singleton.1 q)))
  have kk : ∀ z, z ∈ (put ml k (val0 ml k + 1)).map Prod.fst → z ∈ ml.map Prod.fst := fun z q => by
    rcases put_mem.1 q with q | q
    · exact q
    · rw [q]; exact hk
  exact ⟨fun z hz => h.sr z (by simp [hz]), fun z hz => h.ky z (kk z hz), fun z hz => mv z (h.all z hz), fun x hx k1 y hy => mv y (h.cl x (kk x hx) k1 y hy), by omega, fun p hp2 => by
    rcases put_vals hp2 with q | q
    · rw [q]
      show 1 ≤ val0 ml k + 1 ∧ val0 ml k + 1 + 9 * _ + _ ≤ _
      obtain ⟨v, hv⟩ : ∃ v, look ml k = some v := by
        cases c : look ml k with
        | none => exact absurd hk (look_none_iff.1 c)
        | some v => exact ⟨v, rfl⟩
      have hb : val0 ml k + 9 * unk os ml + (st ++ [k]).length ≤ B + 1 := by unfold val0; rw [hv]; exact (h.val _ (xR hv)).2
      rw [List.length_append, List.length_singleton] at hb
      push_cast at hb
      omega
    · have := h.val p q
      rw [List.length_append, List.length_singleton] at this
      push_cast at this
      omega⟩
theorem RcI.new {os : List Ob} {l st : List ID32} {ml : SnM} {B : Nat} {k : ID32} (h : RcI os l (st ++ [k]) ml B) (e : ¬ 1 < val0 ml k + 1) : RcI os l (st ++ if (lkR os k).2.2 = true then (lkR os k).2.1 else []) (put ml k (val0 ml k + 1)) B ∧ 9 * unk os (put ml k (val0 ml k + 1)) + (st ++ if (lkR os k).2.2 = true then (lkR os k).2.1 else []).length + 1 ≤ 9 * unk os ml + (st ++ [k]).length := by
  have hk := h.isNew e
  have hw := h.w0 k
  have h0 : val0 ml k = 0 := by omega
  have hu := unk_le (os := os) (ml := ml) (k := k) (v := val0 ml k + 1)
  have hl := h.len
  have hp := (put_length (ml := ml) (k := k) (v := val0 ml k + 1)).1
  have h8 := lkR_len os k
  have hkr : Rch os l k := h.sr k (by simp)
  obtain ⟨rs, hrs⟩ : ∃ rs, rs = if (lkR os k).2.2 = true then (lkR os k).2.1 else [] := ⟨_, rfl⟩
  have hm : 9 * unk os (put ml k (val0 ml k + 1)) + (st ++ rs).length + 1 ≤ 9 * unk os ml + (st ++ [k]).length := by
    rw [List.length_append, List.length_append, List.length_singleton]
    by_cases c : (lkR os k).2.2 = true
    · rw [if_pos c] at hrs
      obtain ⟨o, ho, he, h3⟩ := lkR_mem3 c
      have := unk_lt (v := val0 ml k + 1) ho he h3 hk
      rw [hrs]; omega
    · rw [if_neg c] at hrs
      rw [hrs, List.length_nil]; omega
  have hrm : ∀ y ∈ rs, (lkR os k).2.2 = true ∧ y ∈ (lkR os k).2.1 := fun y hy => by
    rw [hrs] at hy
    split at hy
    · rename_i c; exact ⟨c, hy⟩
    · cases hy
  rw [← hrs]
  have mv : ∀ z, z ∈ ml.map Prod.fst ∨ z ∈ st ++ [k] → z ∈ (put ml k (val0 ml k + 1)).map Prod.fst ∨ z ∈ st ++ rs := fun z q => by
    rcases q with q | q
    · exact .inl (put_mem.2 (.inl q))
    · rcases List.mem_append.1 q with q | q
      · exact .inr (List.mem_append_left _ q)
      · exact .inl (put_mem.2 (.inr (List.mem_singleton.1 q)))
  refine ⟨⟨fun z hz => ?_, fun z hz => ?_, fun z hz => mv z (h.all z hz), fun x hx c y hy => ?_, ?_, fun p hp2 => ?_⟩, hm⟩
  · rcases List.mem_append.1 hz with q | q
    · exact h.sr z (List.mem_append_left _ q)
    · exact .step hkr (hrm z q).1 (hrm z q).2
  · rcases put_mem.1 hz with q | q
    · exact h.ky z q
    · rw [q]; exact hkr
  · rcases put_mem.1 hx with q | q
    · exact mv y (h.cl x q c y hy)
    · subst q
      exact .inr (List.mem_append_right _ (by rw [hrs, if_pos c]; exact hy))
  · omega
  · rcases put_vals hp2 with q | q
    · rw [q]
      show 1 ≤ val0 ml k + 1 ∧ val0 ml k + 1 + 9 * _ + _ ≤ _
      omega
    · have := h.val p q
      omega
theorem RcI.fin {os : List Ob} {l : List ID32} {ml : SnM} {B : Nat} (h : RcI os l [] ml B) (z : ID32) : z ∈ ml.map Prod.fst ↔ Rch os l z := by
  refine ⟨h.ky z, fun r => ?_⟩
  induction r with
  | base hz => exact (h.all _ hz).resolve_right (by simp)
  | step _ k m ih => exact (h.cl _ ih k _ m).resolve_right (by simp)
theorem RcI.out {os : List Ob} {l us : List ID32} {ml : SnM} {B : Nat} (h : RcI os l [] ml B) (k : KeysF (ml.map Prod.fst) us) : RchF os l us := ⟨k.asc, fun z => (k.mem z).trans (h.fin z)⟩
theorem sp_last {st : List ID32} {n : Nat} {x : ID32} (h : st.length = n) (g : st[n - 1]? = some x) : st = st.take (n - 1) ++ [x] := by
  have := (List.getElem?_eq_some_iff.1 g).1
  have e : st.take (n - 1 + 1) = st.take (n - 1) ++ [x] := by rw [List.take_add_one, g]; rfl
  rw [List.take_of_length_le (by omega)] at e
  exact e
theorem one_ics {l : List ID32} : ∀ u ∈ (l.map iC).flatten, u.oneCell' = true := fun u hu => by
  obtain ⟨r, hr, hu⟩ := List.mem_flatten.1 hu
  obtain ⟨x, _, rfl⟩ := List.mem_map.1 hr
  exact one_iC u hu


end Cv
