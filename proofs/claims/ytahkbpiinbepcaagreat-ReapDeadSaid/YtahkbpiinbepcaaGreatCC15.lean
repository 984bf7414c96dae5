/-
  The walks: what names refer to.
-/
import Derived.Test.YtahkbpiinbepcaaGreatBB15
import Derived.Test.YtahkbpiinbepcaaGreatCvLd
import Derived.Test.YtahkbpiinbepcaaGreatProg
import Derived.KernelRfl
set_option linter.unusedVariables false
set_option linter.unusedSimpArgs false
set_option linter.unusedSectionVars false
set_option maxHeartbeats 400000
set_option maxRecDepth 10000
namespace Cv
open Go Go.Proofs
/-! ## keys of a map, sorted -/
theorem gd_of' {α : Type} [Inhabited α] {l : List α} {i : Nat} {y : α} (h : l[i]? = some y) : gd l i = y := by unfold gd; rw [List.getD_eq_getElem?_getD, h]; rfl
theorem srt_asc {us : List ID32} (hn : us.Nodup) (h : SrtP cfI us 0 us.length) : us.Pairwise (fun x y => x.1 < y.1) := by
  rw [List.pairwise_iff_getElem]
  intro i j hi hj hij
  have e1 : gd us i = us[i] := gd_of' (List.getElem?_eq_getElem hi)
  have e2 : gd us j = us[j] := gd_of' (List.getElem?_eq_getElem hj)
  have h1 := h i j (Nat.zero_le _) hij hj
  unfold NL at h1
  rw [e1, e2] at h1
  refine cmpB_lt.1 (Decidable.byContradiction fun hc => ?_)
  have := cfI_zero hc h1
  exact absurd ((List.getElem_inj (h₀ := hi) (h₁ := hj) hn).1 this) (by omega)
structure KeysF (ks us : List ID32) : Prop where
  asc : us.Pairwise (fun x y => x.1 < y.1)
  mem : ∀ z, z ∈ us ↔ z ∈ ks
  len : us.length = ks.length
theorem keys_of {ks xs us : List ID32} (hn : ks.Nodup) (h1 : xs.Perm ks) (h2 : us.Perm xs) (h3 : SrtP cfI us 0 us.length) : KeysF ks us := by
  have hp := h2.trans h1
  exact ⟨srt_asc (hp.nodup_iff.2 hn) h3, fun z => hp.mem_iff, hp.length_eq⟩
/-! ## what names refer to -/
theorem put_put {κ ν : Type} [DecidableEq κ] {k : κ} {u v : ν} : ∀ {l : List (κ × ν)}, put (put l k u) k v = put l k v
  | [] => by show (if k = k then _ else _) = _; rw [if_pos rfl]; rfl
  | (k1, w) :: l => by
    by_cases e : k1 = k
    · simp [put, e]
    · simp only [put, if_neg e, put_put]
inductive Rch (os : List Ob) (l : List ID32) : ID32 → Prop
  | base {z : ID32} (h : z ∈ l) : Rch os l z
  | step {x y : ID32} (h : Rch os l x) (k : (lkR os x).2.2 = true) (m : y ∈ (lkR os x).2.1) : Rch os l y
structure RchF (os : List Ob) (l us : List ID32) : Prop where
  asc : us.Pairwise (fun x y => x.1 < y.1)
  mem : ∀ z, z ∈ us ↔ Rch os l z
theorem RchF.uniq {os : List Ob} {l us vs : List ID32} (h : RchF os l us) (k : RchF os l vs) : us = vs := asc_uniq h.asc k.asc fun z => (h.mem z).trans (k.mem z).symm
abbrev SnM := List (ID32 × Int)
def unk (os : List Ob) (ml : SnM) : Nat := (os.filter fun o => decide (o.2.1 ∉ ml.map Prod.fst)).length
theorem filt_lt {α : Type} {p q : α → Bool} : ∀ {l : List α}, (∀ x, q x = true → p x = true) → (∃ x ∈ l, p x = true ∧ q x = false) → (l.filter q).length + 1 ≤ (l.filter p).length
  | [], _, h => by obtain ⟨x, hx, _⟩ := h; cases hx
  | y :: l, hm, h => by
    have mono : (l.filter q).length ≤ (l.filter p).length := by
      clear h
      induction l with
      | nil => exact Nat.le_refl _
      | cons z l ih =>
        rw [List.filter_cons, List.filter_cons]
        by_cases c : q z = true
        · rw [if_pos c, if_pos (hm z c), List.length_cons, List.length_cons]; omega
        · rw [if_neg c]
          split
          · rw [List.length_cons]; omega
          · exact ih
    obtain ⟨x, hx, hp, hq⟩ := h
    rw [List.filter_cons, List.filter_cons]
    rcases List.mem_cons.1 hx with e | e
    · subst e
      rw [if_neg (by rw [hq]; decide), if_pos hp, List.length_cons]; omega
    · have ih := filt_lt (l := l) hm ⟨x, e, hp, hq⟩
      by_cases c : q y = true
      · rw [if_pos c, if_pos (hm y c), List.length_cons, List.length_cons]; omega
      · rw [if_neg c]
        split
        · rw [List.length_cons]; omega
        · exact ih
theorem put_mem {ml : SnM} {k z : ID32} {v : Int} : z ∈ (put ml k v).map Prod.fst ↔ z ∈ ml.map Prod.fst ∨ z = k := by
  rw [keys_put]
  split
  · rename_i h
    constructor
    · exact .inl
    · rintro (q | q)
      · exact q
      · rw [q]; exact h
  · rw [List.mem_append, List.mem_singleton]
theorem unk_le {os : List Ob} {ml : SnM} {k : ID32} {v : Int} : unk os (put ml k v) ≤ unk os ml := by
  unfold unk
  have : ∀ l : List Ob, (l.filter fun o => decide (o.2.1 ∉ (put ml k v).map Prod.fst)).length ≤ (l.filter fun o => decide (o.2.1 ∉ ml.map Prod.fst)).length := fun l => by
    induction l with
    | nil => exact Nat.le_refl _
    | cons z l ih =>
      rw [List.filter_cons, List.filter_cons]
      by_cases c : decide (z.2.1 ∉ (put ml k v).map Prod.fst) = true
      · have c2 : decide (z.2.1 ∉ ml.map Prod.fst) = true := decide_eq_true fun q => of_decide_eq_true c (put_mem.2 (.inl q))
        rw [if_pos c, if_pos c2, List.length_cons, List.length_cons]; omega
      · rw [if_neg c]
        split
        · rw [List.length_cons]; omega
        · exact ih
  exact this os
theorem unk_lt {os : List Ob} {ml : SnM} {k : ID32} {v : Int} {o : Ob} (ho : o ∈ os) (e : o.2.1 = k) (hn : k ∉ ml.map Prod.fst) : unk os (put ml k v) + 1 ≤ unk os ml :=
  filt_lt (fun x hx => decide_eq_true fun q => of_decide_eq_true hx (put_mem.2 (.inl q))) ⟨o, ho, decide_eq_true (by rw [e]; exact hn), decide_eq_false fun q => q (put_mem.2 (.inr e))⟩
theorem lkR_mem {os : List Ob} {x : ID32} (h : (lkR os x).2.2 = true) : ∃ o ∈ os, o.2.1 = x := by
  unfold lkR at h
  cases e : goF os x with
  | none => rw [e] at h; cases h
  | some o => exact ⟨o, goF_mem e⟩
theorem parI_len (s : List UInt8) : (parI s).2.1.length ≤ 8 := by
  unfold parI
  split
  · exact Nat.zero_le _
  · split
    · exact Nat.zero_le _
    · exact idsF_len _ 8
theorem lkR_len (os : List Ob) (x : ID32) : (lkR os x).2.1.length ≤ 8 := by
  unfold lkR
  cases goF os x with
  | none => exact Nat.zero_le _
  | some o =>
    show (if o.1 = 3 then _ else _ : Pt × List ID32 × Bool).2.1.length ≤ 8
    split
    · exact parI_len _
    · exact Nat.zero_le _
structure RcI (os : List Ob) (l st : List ID32) (ml : SnM) (B : Nat) : Prop where
  sr : ∀ z ∈ st, Rch os l z
  ky : ∀ z ∈ ml.map Prod.fst, Rch os l z
  all : ∀ z ∈ l, z ∈ ml.map Prod.fst ∨ z ∈ st
  cl : ∀ x ∈ ml.map Prod.fst, (lkR os x).2.2 = true → ∀ y ∈ (lkR os x).2.1, y ∈ ml.map Prod.fst ∨ y ∈ st
  len : ml.length + 9 * unk os ml + st.length ≤ B
  val : ∀ p ∈ ml, 1 ≤ p.2 ∧ p.2 + 9 * unk os ml + st.length ≤ B + 1
theorem RcI.start {os : List Ob} {l : List ID32} {m : Nat} (h : l.length = m) : RcI os l l [] (9 * os.length + m) where
  sr z h := .base h
  ky z h := by cases h
  all z h := .inr h
  cl x h := by cases h
  len := by
    have : unk os [] ≤ os.length := List.length_filter_le _ _
    simp only [List.length_nil]; omega
  val p h := by cases h
theorem put_vals {ml : SnM} {k : ID32} {v : Int} {p : ID32 × Int} : p ∈ put ml k v → p = (k, v) ∨ p ∈ ml := by
  induction ml with
  | nil => intro h; exact .inl (by simpa [put] using h)
  | cons q ml ih =>
    obtain ⟨k1, u⟩ := q
    intro h
    by_cases e : k1 = k
    · rw [put, if_pos e] at h
      rcases List.mem_cons.1 h with h | h
      · exact .inl h
      · exact .inr (List.mem_cons_of_mem _ h)
    · rw [put, if_neg e] at h
      rcases List.mem_cons.1 h with h | h
      · exact .inr (by rw [h]; exact List.mem_cons_self ..)
      · rcases ih h with h | h
        · exact .inl h
        · exact .inr (List.mem_cons_of_mem _ h)
theorem put_length {ml : SnM} {k : ID32} {v : Int} : (put ml k v).length ≤ ml.length + 1 ∧ (k ∈ ml.map Prod.fst → (put ml k v).length = ml.length) := by
  have h := congrArg List.length (keys_put (l := ml) (k := k) (v := v))
  rw [List.length_map] at h
  split at h
  · rw [List.length_map] at h; exact ⟨by omega, fun _ => h⟩
  · rename_i c
    rw [List.length_append, List.length_map, List.length_singleton] at h
    exact ⟨by omega, fun q => absurd q c⟩
def val0 (ml : SnM) (k : ID32) : Int := (look ml k).getD 0
theorem RcI.w0 {os : List Ob} {l st : List ID32} {ml : SnM} {B : Nat} (h : RcI os l st ml B) (k : ID32) : 0 ≤ val0 ml k ∧ val0 ml k ≤ B + 1 := by
  unfold val0
  cases e : look ml k with
  | none => exact ⟨Int.le_refl _, by show (0 : Int) ≤ _; omega⟩
  | some v =>
    have := h.val _ (xC e)
    show 0 ≤ v ∧ v ≤ _
    have h1 : (1 : Int) ≤ v := this.1
    have h2 : v + 9 * unk os ml + st.length ≤ B + 1 := this.2
    omega
theorem RcI.isNew {os : List Ob} {l st : List ID32} {ml : SnM} {B : Nat} (h : RcI os l st ml B) {k : ID32} (e : ¬ 1 < val0 ml k + 1) : k ∉ ml.map Prod.fst := by
  unfold val0 at e
  refine look_none_iff.1 ?_
  cases q : look ml k with
  | none => rfl
  | some v =>
    rw [q] at e
    have := (h.val _ (xC q)).1
    have h1 : (1 : Int) ≤ v := this
    have h2 : ¬ (1 : Int) < v + 1 := e
    omega
theorem RcI.isOld {ml : SnM} {k : ID32} (e : 1 < val0 ml k + 1) : k ∈ ml.map Prod.fst := Decidable.byContradiction fun q => by
  unfold val0 at e
  rw [look_none_iff.2 q] at e
  exact absurd e (by decide)
theorem RcI.old {os : List Ob} {l st : List ID32} {ml : SnM} {B : Nat} {k : ID32} (h : RcI os l (st ++ [k]) ml B) (e : 1 < val0 ml k + 1) : RcI os l st (put ml k (val0 ml k + 1)) B := by
  have hk := RcI.isOld e
  have hw := h.w0 k
  have hu := unk_le (os := os) (ml := ml) (k := k) (v := val0 ml k + 1)
  have hl := h.len
  have hp := (put_length (ml := ml) (k := k) (v := val0 ml k + 1)).2 hk
  rw [List.length_append, List.length_singleton] at hl
  have mv : ∀ z, z ∈ ml.map Prod.fst ∨ z ∈ st ++ [k] → z ∈ (put ml k (val0 ml k + 1)).map Prod.fst ∨ z ∈ st := fun z q => by
    rcases q with q | q
    · exact .inl (put_mem.2 (.inl q))
    · rcases List.mem_append.1 q with q | q
      · exact .inr q
      · exact .inl (put_mem.2 (.inr (List.mem_singleton.1 q)))
  have kk : ∀ z, z ∈ (put ml k (val0 ml k + 1)).map Prod.fst → z ∈ ml.map Prod.fst := fun z q => by
    rcases put_mem.1 q with q | q
    · exact q
    · rw [q]; exact hk
  exact ⟨fun z hz => h.sr z (by simp [hz]), fun z hz => h.ky z (kk z hz), fun z hz => mv z (h.all z hz), fun x hx k1 y hy => mv y (h.cl x (kk x hx) k1 y hy), by omega, fun p hp2 => by
    rcases put_vals hp2 with q | q
    · rw [q]
      show 1 ≤ val0 ml k + 1 ∧ val0 ml k + 1 + 9 * _ + _ ≤ _
      obtain ⟨v, hv⟩ : ∃ v, look ml k = some v := by
        cases c : look ml k with
        | none => exact absurd hk (look_none_iff.1 c)
        | some v => exact ⟨v, rfl⟩
      have hb : val0 ml k + 9 * unk os ml + (st ++ [k]).length ≤ B + 1 := by unfold val0; rw [hv]; exact (h.val _ (xC hv)).2
      rw [List.length_append, List.length_singleton] at hb
      push_cast at hb
      omega
    · have := h.val p q
      rw [List.length_append, List.length_singleton] at this
      push_cast at this
      omega⟩
theorem RcI.new {os : List Ob} {l st : List ID32} {ml : SnM} {B : Nat} {k : ID32} (h : RcI os l (st ++ [k]) ml B) (e : ¬ 1 < val0 ml k + 1) : RcI os l (st ++ if (lkR os k).2.2 = true then (lkR os k).2.1 else []) (put ml k (val0 ml k + 1)) B ∧ 9 * unk os (put ml k (val0 ml k + 1)) + (st ++ if (lkR os k).2.2 = true then (lkR os k).2.1 else []).length + 1 ≤ 9 * unk os ml + (st ++ [k]).length := by
  have hk := h.isNew e
  have hw := h.w0 k
  have h0 : val0 ml k = 0 := by omega
  have hu := unk_le (os := os) (ml := ml) (k := k) (v := val0 ml k + 1)
  have hl := h.len
  have hp := (put_length (ml := ml) (k := k) (v := val0 ml k + 1)).1
  have h8 := lkR_len os k
  have hkr : Rch os l k := h.sr k (by simp)
  obtain ⟨rs, hrs⟩ : ∃ rs, rs = if (lkR os k).2.2 = true then (lkR os k).2.1 else [] := ⟨_, rfl⟩
  have hm : 9 * unk os (put ml k (val0 ml k + 1)) + (st ++ rs).length + 1 ≤ 9 * unk os ml + (st ++ [k]).length := by
    rw [List.length_append, List.length_append, List.length_singleton]
    by_cases c : (lkR os k).2.2 = true
    · rw [if_pos c] at hrs
      obtain ⟨o, ho, he⟩ := lkR_mem c
      have := unk_lt (v := val0 ml k + 1) ho he hk
      rw [hrs]; omega
    · rw [if_neg c] at hrs
      rw [hrs, List.length_nil]; omega
  have hrm : ∀ y ∈ rs, (lkR os k).2.2 = true ∧ y ∈ (lkR os k).2.1 := fun y hy => by
    rw [hrs] at hy
    split at hy
    · rename_i c; exact ⟨c, hy⟩
    · cases hy
  rw [← hrs]
  have mv : ∀ z, z ∈ ml.map Prod.fst ∨ z ∈ st ++ [k] → z ∈ (put ml k (val0 ml k + 1)).map Prod.fst ∨ z ∈ st ++ rs := fun z q => by
    rcases q with q | q
    · exact .inl (put_mem.2 (.inl q))
    · rcases List.mem_append.1 q with q | q
      · exact .inr (List.mem_append_left _ q)
      · exact .inl (put_mem.2 (.inr (List.mem_singleton.1 q)))
  refine ⟨⟨fun z hz => ?_, fun z hz => ?_, fun z hz => mv z (h.all z hz), fun x hx c y hy => ?_, ?_, fun p hp2 => ?_⟩, hm⟩
  · rcases List.mem_append.1 hz with q | q
    · exact h.sr z (List.mem_append_left _ q)
    · exact .step hkr (hrm z q).1 (hrm z q).2
  · rcases put_mem.1 hz with q | q
    · exact h.ky z q
    · rw [q]; exact hkr
  · rcases put_mem.1 hx with q | q
    · exact mv y (h.cl x q c y hy)
    · subst q
      exact .inr (List.mem_append_right _ (by rw [hrs, if_pos c]; exact hy))
  · omega
  · rcases put_vals hp2 with q | q
    · rw [q]
      show 1 ≤ val0 ml k + 1 ∧ val0 ml k + 1 + 9 * _ + _ ≤ _
      omega
    · have := h.val p q
      omega
theorem RcI.fin {os : List Ob} {l : List ID32} {ml : SnM} {B : Nat} (h : RcI os l [] ml B) (z : ID32) : z ∈ ml.map Prod.fst ↔ Rch os l z := by
  refine ⟨h.ky z, fun r => ?_⟩
  induction r with
  | base hz => exact (h.all _ hz).resolve_right (by simp)
  | step _ k m ih => exact (h.cl _ ih k _ m).resolve_right (by simp)
theorem RcI.out {os : List Ob} {l us : List ID32} {ml : SnM} {B : Nat} (h : RcI os l [] ml B) (k : KeysF (ml.map Prod.fst) us) : RchF os l us := ⟨k.asc, fun z => (k.mem z).trans (h.fin z)⟩
theorem sp_last {st : List ID32} {n : Nat} {x : ID32} (h : st.length = n) (g : st[n - 1]? = some x) : st = st.take (n - 1) ++ [x] := by
  have := (List.getElem?_eq_some_iff.1 g).1
  have e : st.take (n - 1 + 1) = st.take (n - 1) ++ [x] := by rw [List.take_add_one, g]; rfl
  rw [List.take_of_length_le (by omega)] at e
  exact e
theorem one_ics {l : List ID32} : ∀ u ∈ (l.map iC).flatten, u.oneCell' = true := fun u hu => by
  obtain ⟨r, hr, hu⟩ := List.mem_flatten.1 hu
  obtain ⟨x, _, rfl⟩ := List.mem_map.1 hr
  exact one_iC u hu

theorem keysitR_spec {ml : List (ID32 × Int)} {m c l : Nat} {ψ : Asn} {J : List ID32 → Asn} (hY : ∀ pre x, (pre.length < ml.length) → YSpec Tryz.prog l [.agg (x.1.map Y).toArray] [ψ] [J pre] (fun v D' M' => v = .bool true ∧ D' = [] ∧ M' = [J (pre ++ [x])])) : Spec Tryz.prog 85 [fnY l, .pointer (some ⟨c, 0, none⟩)] [cl c 64 [.map (some m)], ψ] [mp m aK iK ml, J []] (fun v D' M' => ∃ (xs : List ID32), v = .tuple #[] ∧ (xs.Perm (ml.map Prod.fst)) ∧ D' = [] ∧ M' = [mp m aK iK ml, J xs]) := by
 refine zC (n := 14) Tryz.func85 ?_
 intro σ D M
 refine T.mpNodup (kenc := aK) (venc := iK) qM (fun hnd => ?_)
 refine z6 (z8 (zh rfl sc64 rfl qC ?_))
 refine L.range (kenc := aK) (venc := iK) rfl xm rfl qP (fun it => ?_)
 refine z7 (z4 (zr (zX (fun K' D' M' μ => ∃ (pre rest : List ID32) (cur : Option ID32), ((pre ++ rest).Perm (ml.map Prod.fst)) ∧ K' = [] ∧ D' = [] ∧ M' = [mpi m it aK iK ml rest cur, J pre] ∧ μ = rest.length) (.c 0 rfl <| .c 5 rfl <| za _) (⟨[], ml.map Prod.fst, none, (by simp), rfl, rfl, rfl, rfl⟩) (za _) qD qS ?_)))
 rintro K1 D1 M1 m1 ⟨pre, rest, cur, hP, rfl, rfl, rfl, rfl⟩
 refine zF qA qA qA ?_
 refine z6 (z8 (L.next rfl rfl qP (fun hre => ?_) (fun k v rs hpe hkv => ?_)))
 ·skip
  skip
  refine zG rfl rfl rfl (z7 (z4 (z6 (ym rfl rfl ?_))))
  refine zR (zq (zq (zS ?_)))
  subst hre
  refine T.mpiMp qP ?_
  exact yW (by simp) rfl ⟨pre, rfl, by simpa using hP, rfl, rfl⟩ qD qF
 ·skip
  skip
  refine zG rfl rfl rfl (z7 (z4 (z6 (xk rfl rfl ?_))))
  refine zm (z4 (zr (z6 (z8 (L.entry (ent_inj aK_inj hnd hkv) rfl rfl qM hkv ?_)))))
  refine zG rfl rfl rfl (zL rfl ze38 (fun b3 => ?_))
  refine zE zu rfl rfl qL qO qU qW ?_
  refine z7 ?_
  have hlt : pre.length < ml.length := by have h2 := hpe.length_eq; have h3 := hP.length_eq; simp at h2 h3; omega
  have hk32 := k.2
  refine z4 (z6 (z8 (z5 rfl rfl (zp rfl zu rfl qN ?_))))
  refine L.callY (M0 := [J pre]) rfl rfl rfl (evs.cons rfl xu) qD qS (hY pre k hlt) ?_
  rintro _ _ _ ⟨rfl, rfl, rfl⟩
  refine zt qA qA ?_
  refine yX rfl rfl (z7 (z4 (ym rfl rfl ?_)))
  exact zm (zI (z4 (zM ⟨pre ++ [k], rs, some k, (by rw [List.append_assoc]; exact (List.Perm.append_left pre hpe.symm).trans hP), rfl, rfl, rfl, rfl⟩ (by have := hpe.length_eq; simp at this; omega) (za _) (.c 0 rfl <| .c 5 rfl <| za _) qD qD qF)))
theorem keys_iterR {ml : List (ID32 × Int)} {m c : Nat} : Iter Tryz.prog 85 [.pointer (some ⟨c, 0, none⟩)] (fun x : ID32 => [.agg (x.1.map Y).toArray]) (fun pre x => pre.length < ml.length) (cl c 64 [.map (some m)]) (mp m aK iK ml) (mp m aK iK ml) (fun xs => xs.Perm (ml.map Prod.fst)) :=
 ⟨fun l ψ J hY => (keysitR_spec hY).imp (fun v D' M' ⟨xs, _, h2, h3, h4⟩ => ⟨xs, h2, h3, h4⟩)⟩
theorem keysfR_spec {m : Nat}  : Spec Tryz.prog 54 [.map (some m)] [] [] (fun v D' M' => ∃ (c : Nat), v = fnV 85 [.pointer (some ⟨c, 0, none⟩)] ∧ D' = [cl c 64 [.map (some m)]] ∧ M' = []) := by
 refine zC (n := 4) Tryz.func54 ?_
 intro σ D M
 refine z6 (z8 (yq rfl rfl rfl (fun b1 => ?_)))
 refine z9 rfl rfl (z7 (y1 (A := cl b1 64 [.map (some m)]) qP ?_))
 refine z4 (z6 (z8 (L.makeFunc rfl (ev1 rfl) ?_)))
 exact z9 rfl rfl (z7 (z4 (zi (zz rfl rfl ⟨_, rfl, rfl, rfl⟩ qD qF))))
theorem appseqIR_spec {f : FuncId} {lb : List Value} {Ok : List ID32 → ID32 → Prop} {φ A0 A1 : Asn} {SS : List ID32 → Prop}  (hI : Iter Tryz.prog f lb (fun x : ID32 => [.agg (x.1.map Y).toArray]) Ok φ A0 A1 SS) (hOk : ∀ pre x, Ok pre x → pre.length < 1000000000) : Spec Tryz.prog 118 [.slice none 0 0, fnV f lb] [φ] [A0] (fun v D' M' => ∃ (a' : Option Addr) (n' c' : Nat) (xs : List ID32), v = .slice a' n' c' ∧ (SS xs) ∧ (xs.length = n') ∧ D' = [] ∧ M' = [A1, own 32 38 a' n' c' ((xs).map iC)]) := by
 refine zC (n := 13) Tryz.func118 ?_
 intro σ D M
 refine z6 (z8 (yq rfl rfl rfl (fun b2 => ?_)))
 refine z9 rfl rfl (z7 (yF (sz := 32) (e := 38) ?_))
 refine z4 (z6 (z6 (z8 (z5 rfl rfl (z7 (z4 (zr (T.mkJ (J := (fun (pre : List (ID32)) => exs fun (a8 : Option Addr) => exs fun (n8 : Nat) => exs fun (c8 : Nat) => pur (pre.length = n8) (all [cl b2 30 [.slice a8 n8 c8], own 32 38 a8 n8 c8 ((pre).map iC)]) : List (ID32) → Asn) []) (L := (fun (pre : List (ID32)) (a8 : Option Addr) (n8 : Nat) (c8 : Nat) => ([cl b2 30 [.slice a8 n8 c8], own 32 38 a8 n8 c8 ((pre).map iC)] : List Asn)) [] (none) (0) (0)) qS (yG (none) (yG (0) (yG (0) (pur.in rfl (Ent.refl _))))) ?_))))))))
 refine T.rangeFunc (encs := fun x : ID32 => [.agg (x.1.map Y).toArray]) (hI) rfl qk (fun _ => rfl) jD (fun x => [(7, .agg (x.1.map Y).toArray)]) (fun _ => rfl) [] (fun (pre : List (ID32)) => exs fun (a8 : Option Addr) => exs fun (n8 : Nat) => exs fun (c8 : Nat) => pur (pre.length = n8) (all [cl b2 30 [.slice a8 n8 c8], own 32 38 a8 n8 c8 ((pre).map iC)]) : List (ID32) → Asn) (.c 2 rfl <| za _) qD qD qS ?_ ?_
 ·intro σ1 l1 r1 pre x D1 M1 hok hr1
  refine T.norm2 qA qA ?_
  refine yY qP (fun a8 => ?_)
  refine yY qP (fun n8 => ?_)
  refine yY qP (fun c8 => ?_)
  refine T.pur qP (fun hJ => ?_)
  refine T.unfold _ qP rfl qA ?_
  have hol := hOk pre x hok
  have hx32 := x.2
  refine z8 (zL rfl ze38 (fun b5 => ?_))
  refine zE zu rfl rfl qL qO qU qW ?_
  refine z7 (z4 (T.begin hr1.1 qP ?_))
  refine zr (z8 (zh rfl sc30 rfl qC ?_))
  refine zp rfl zu rfl qN ?_
  refine yh rfl bs30 jD (yQ rfl rfl (by first | with_reducible assumption | (simp; done) | (simp only [List.length_map]; with_reducible assumption) | (simp [*]; done) | rfl) (Nat.le_of_ble_eq_true rfl) qR <| zO (out := []) rfl) (fun b10 => ?_)
  refine yR rfl zA el38 rfl rfl qP qM (by rw [List.append_nil, List.length_map]; exact hx32) (fun u hu => by rw [List.append_nil] at hu; obtain ⟨b, _, rfl⟩ := List.mem_map.1 hu; rfl) qI qI (fun a11 c11 => ?_)
  refine yv sc30 rfl rfl rfl qU qE ?_
  refine z7 (zI (y4 _ ((pre ++ [x]).map iC) qP (by rw [List.map_append, List.append_nil]; rfl) ?_))
  refine T.mkJ (J := (fun (pre : List (ID32)) => exs fun (a8 : Option Addr) => exs fun (n8 : Nat) => exs fun (c8 : Nat) => pur (pre.length = n8) (all [cl b2 30 [.slice a8 n8 c8], own 32 38 a8 n8 c8 ((pre).map iC)]) : List (ID32) → Asn) (pre ++ [x])) (L := (fun (pre : List (ID32)) (a8 : Option Addr) (n8 : Nat) (c8 : Nat) => ([cl b2 30 [.slice a8 n8 c8], own 32 38 a8 n8 c8 ((pre).map iC)] : List Asn)) (pre ++ [x]) (_) (n8 + 1) (_)) qS (yG (_) (yG (n8 + 1) (yG (_) (pur.in (by rw [List.length_append, hJ]; rfl) (Ent.refl _))))) ?_
  exact T.roundEnd hr1 qP qD qF
 ·intro b1 xs hxs
  refine yY qP (fun a8 => ?_)
  refine yY qP (fun n8 => ?_)
  refine yY qP (fun c8 => ?_)
  refine T.pur qP (fun hJ => ?_)
  refine T.unfold _ qP rfl qA ?_
  refine zI (z4 (z6 (z8 (zh rfl sc30 rfl qC ?_))))
  refine z9 rfl rfl (z7 (z4 (zi (T.unmark (.inl rfl) qP ?_))))
  exact zz rfl rfl ⟨_, _, _, xs, rfl, hxs, hJ, rfl, rfl⟩ qD qF
theorem collectIR_spec {f : FuncId} {lb : List Value} {Ok : List ID32 → ID32 → Prop} {φ A0 A1 : Asn} {SS : List ID32 → Prop}  (hI : Iter Tryz.prog f lb (fun x : ID32 => [.agg (x.1.map Y).toArray]) Ok φ A0 A1 SS) (hOk : ∀ pre x, Ok pre x → pre.length < 1000000000) : Spec Tryz.prog 83 [fnV f lb] [φ] [A0] (fun v D' M' => ∃ (a' : Option Addr) (n' c' : Nat) (xs : List ID32), v = .slice a' n' c' ∧ (SS xs) ∧ (xs.length = n') ∧ D' = [] ∧ M' = [A1, own 32 38 a' n' c' ((xs).map iC)]) := by
 refine zC (n := 5) Tryz.func83 ?_
 intro σ D M
 refine z6 (z8 (z9 rfl rfl (z7 (z4 (z6 (z8 (z5 rfl rfl (zx rfl (ev2 rfl rfl) qD qS (appseqIR_spec hI hOk) ?_))))))))
 rintro _ _ _ ⟨sa, sn, sc, xs, rfl, hxs, hxl, rfl, rfl⟩
 refine zt qA qA ?_
 exact z9 rfl rfl (z7 (z4 (zi (zz rfl rfl ⟨_, _, _, xs, rfl, hxs, hxl, rfl, rfl⟩ qD qF))))
theorem sortedGR_spec {f : FuncId} {lb : List Value} {Ok : List ID32 → ID32 → Prop} {φ A0 A1 : Asn} {SS : List ID32 → Prop}  (hI : Iter Tryz.prog f lb (fun x : ID32 => [.agg (x.1.map Y).toArray]) Ok φ A0 A1 SS) (hOk : ∀ pre x, Ok pre x → pre.length < 1000000000) (hSl : ∀ xs, SS xs → xs.length ≤ 60000) : Spec Tryz.prog 53 [fnV f lb, fnV 55 []] [φ] [A0] (fun v D' M' => ∃ (a' : Option Addr) (n' c' : Nat) (xs us : List ID32), v = .slice a' n' c' ∧ (SS xs) ∧ (us.Perm xs) ∧ (SrtP cfI us 0 us.length) ∧ (us.length = n') ∧ D' = [] ∧ M' = [A1, own 32 38 a' n' c' ((us).map iC)]) := by
 refine zC (n := 12) Tryz.func53 ?_
 intro σ D M
 refine z6 (z8 (z9 rfl rfl (z7 (z4 (z6 (z8 (z5 rfl rfl (zx rfl (ev1 rfl) qD qS (collectIR_spec hI hOk) ?_))))))))
 rintro _ _ _ ⟨sa, sn, sc, xs, rfl, hxs, hxl, rfl, rfl⟩
 refine zt qA qA ?_
 have hsl := hSl xs hxs
 refine z9 rfl rfl (z7 (z4 (z6 (z8 (z5 rfl rfl (z5 rfl rfl (zx rfl (ev2 rfl rfl) qD qS (sortw_spec (cf := cfI) (xs := xs) cfI_swo cfI_irr (fun x y => ocmp_spec) jO) ?_)))))))
 rintro _ _ _ ⟨us, rfl, hp, hs, rfl, rfl⟩
 refine zt qA qA ?_
 have hul := hp.length_eq
 exact z7 (z4 (z6 (z8 (z5 rfl rfl (z9 rfl rfl (z7 (z4 (zi (zz rfl rfl ⟨_, _, _, xs, us, rfl, hxs, hp, by rw [hul, hxl]; exact hs, by rw [hul, hxl], rfl, rfl⟩ qD qF)))))))))
theorem reach_spec {a b : Option Addr} {n c m d : Nat} {os : List Ob} {l : List ID32} (hn : n ≤ 3000) (hs : Shf os) (hm : m ≤ 10000) : Spec Tryz.prog 17 [.iface 26 (.agg #[.slice a n c]), .slice b m d] [rsl 34 a n c (os.map obC), rsl 32 b m d (l.map iC)] [] (fun v D' M' => ∃ (a' : Option Addr) (n' c' : Nat) (us : List ID32), v = .slice a' n' c' ∧ (RchF os l us) ∧ (us.length = n') ∧ (n' ≤ 9 * os.length + m) ∧ D' = [] ∧ M' = [own 32 38 a' n' c' (us.map iC)]) := by
 refine zC (n := 49) Tryz.func17 ?_
 intro σ D M
 refine yH (a := a) (len := n) (cap := c) (rows := os.map obC) qM (fun hol hoc => ?_)
 rw [List.length_map] at hol
 refine yH (a := b) (len := m) (cap := d) (rows := l.map iC) qM (fun hll hlc => ?_)
 rw [List.length_map] at hll
 refine z6 (z8 (z9 rfl rfl (z7 (z4 (z6 (z8 (L.makeMap aK iK rfl (fun sm => ?_))))))))
 refine z9 rfl rfl (z7 (z4 (z6 (zr (zX (fun K' D' M' μ => ∃ (n1 d1 : Nat) (b1 : Option Addr) (st : List ID32) (ml : SnM), (RcI os l st ml (9 * os.length + m) ∧ st.length = n1) ∧ K' = [(1, .slice b1 n1 d1)] ∧ D' = [rsl 32 b1 n1 d1 ((st).map iC)] ∧ M' = [mp sm aK iK ml] ∧ μ = 9 * unk os ml + n1) (.c 0 rfl <| .c 5 rfl <| za _) (⟨m, d, b, l, [], ⟨.start hll, hll⟩, rfl, rfl, rfl, rfl⟩) (.c 1 rfl <| za _) qD qS ?_)))))
 rintro K1 D1 M1 m1 ⟨n1, d1, b1, st, ml, ⟨hI, hsl⟩, rfl, rfl, rfl, rfl⟩
 refine zF qA qA qA ?_
 refine yH (a := b1) (len := n1) (cap := d1) (rows := st.map iC) qM (fun hsl2 hsc2 => ?_)
 clear hsl2
 refine z6 (z6 (z8 (z5 rfl rfl (y2 rfl zA rfl (yB rfl rfl rfl (z7 (z4 (zo rfl (fun h12 => ?_) (fun h12 => ?_)))))))))
 ·try simp only [dq] at h12
  refine zm (z4 (zr (z6 ?_)))
  have hgx : st[n1 - 1]? = some (gd st (n1 - 1)) := zJ jO
  obtain ⟨x, hx_⟩ : ∃ z, z = gd st (n1 - 1) := ⟨_, rfl⟩
  rw [← hx_] at hgx
  clear hx_
  have hrx : (st.map iC)[n1 - 1]? = some (iC x) := zU hgx
  have hx32 := x.2
  have hx3 := zT x
  have hst := sp_last hsl hgx
  have hw0 := hI.w0 x
  have hIx := hI
  rw [hst] at hIx
  have hlen := hI.len
  refine z8 (z5 rfl rfl (z5 rfl rfl (y2 rfl zA rfl (y7 rfl rfl rfl jO ?_))))
  refine yI (i := n1 - 1) rfl zA zN rfl rfl qM jR qG (fun b17 o17 => ?_)
  refine zp rfl zu rfl (x8 qM hx3) ?_
  refine zL rfl ze38 (fun b6 => ?_)
  refine zE zu rfl rfl qL qO qU qW ?_
  refine z7 (y1 (A := cl b6 38 (iC x)) qP ?_)
  refine z4 (z6 (z8 (z5 rfl rfl (z5 rfl rfl (y2 rfl zA rfl (y7 rfl rfl rfl jO ?_))))))
  refine L.sliceR rfl zA zN rfl Bd.no (Bd.at (x := n1 - 1) rfl jR) qM qI qI qI (fun a23 => ?_)
  refine L.derive (ψ := rsl 32 a23 (n1 - 1 - 0) (d1 - 0) ((st.take (n1 - 1)).map iC)) (List.Mem.head _) (fun z H => by rw [List.map_take]; exact H) ?_
  refine zx rfl (ev1 rfl) qD qS (clone_spec (xs := st.take (n1 - 1)) jO) ?_
  rintro _ _ _ ⟨ca, cl_, cc, rfl, hcl, rfl, rfl⟩
  refine zt qA qA ?_
  subst hcl
  refine z9 rfl rfl (z7 (z4 (z6 (z6 (yu (fun K' D' M' => K' = [] ∧ D' = [] ∧ M' = [mp sm aK iK (put ml x (val0 ml x + 1))]) (M0 := [mp sm aK iK ml]) (.c 0 rfl <| .c 1 rfl <| .c 5 rfl <| .c 6 rfl <| za _) qS ?_ ?_)))))
  ·skip
   refine yt (clsL [1, 1, 2, 1, 2, 1, 2]) qk ?_
   refine ze 0 rfl rfl (z5 rfl rfl (zd (ze 1 rfl rfl (zp rfl zu rfl qN ?_))))
   refine zd (xg (is := [2, 4]) qk jD (yE rfl ?_ <| yE rfl ?_ <| xh) )
   ·skip
    refine L.lookup1 (kenc := aK) (venc := iK) (l := ml) (k := x) rfl xm (yp yf zY sc5) zv3 rfl rfl qM ?_
    refine zv (t := 27) (u := .int .i64 (val0 (ml) (x))) rfl (by unfold val0; cases look (ml) (x) <;> rfl) ?_
    refine zw rfl qD ?_
    refine ze 3 rfl rfl (zH rfl rfl rfl jO ?_)
    refine zd (zy 4 rfl (L.mapEntry (kenc := aK) (venc := iK) (l := ml) (k := x) (z0 := 0) rfl xm (yp yf zY sc5) zv3 rfl rfl qP (fun mt => ?_)))
    refine zw rfl qD ?_
    refine ze 5 rfl rfl (zG rfl rfl rfl (zd (zy 6 rfl (L.entryStore (kenc := aK) (venc := iK) (l := Cv.put ml x ((look ml x).getD 0)) (k := x) (v := val0 ml x + 1) rfl rfl rfl rfl qP ?_))))
    rw [put_put]
    refine zw rfl qD ?_
    refine y6 qk ?_
    exact z4 (zK ⟨rfl, rfl, rfl⟩ (za _) (.c 0 rfl <| .c 1 rfl <| .c 5 rfl <| .c 6 rfl <| za _) qD qD qF)
   ·skip
    refine L.mapEntry (kenc := aK) (venc := iK) (l := ml) (k := x) (z0 := 0) rfl xm (yp yf zY sc5) zv3 rfl rfl qP (fun mt => ?_)
    refine zw rfl qD ?_
    refine ze 5 rfl rfl (zG rfl rfl rfl (zd (zy 2 rfl (L.lookup1E (kenc := aK) (venc := iK) (l := Cv.put ml x ((look ml x).getD 0)) (k := x) rfl xm (yp yf zY sc5) zv3 rfl rfl qM ?_))))
    refine zv (t := 27) (u := .int .i64 (val0 ml x)) rfl (by rw [look_put, if_pos rfl]; rfl) ?_
    refine zw rfl qD ?_
    refine ze 3 rfl rfl (zH rfl rfl rfl jO ?_)
    refine zd (zy 6 rfl (L.entryStore (kenc := aK) (venc := iK) (l := Cv.put ml x ((look ml x).getD 0)) (k := x) (v := val0 ml x + 1) rfl rfl rfl rfl qP ?_))
    rw [put_put]
    refine zw rfl qD ?_
    refine y6 qk ?_
    exact z4 (zK ⟨rfl, rfl, rfl⟩ (za _) (.c 0 rfl <| .c 1 rfl <| .c 5 rfl <| .c 6 rfl <| za _) qD qD qF)
  rintro _ _ _ ⟨rfl, rfl, rfl⟩
  refine zF qA qA qA ?_
  refine z4 (z6 (z8 (z5 rfl rfl (zp rfl zu rfl qN ?_))))
  refine L.lookup1 (kenc := aK) (venc := iK) (l := (put ml x (val0 ml x + 1))) (k := x) rfl xm (yp yf zY sc5) zv3 rfl rfl qM ?_
  refine zv (t := 33) (u := .int .i64 (val0 ml x + 1)) rfl (by rw [look_put, if_pos rfl]; rfl) ?_
  refine yB rfl rfl rfl (z7 (z4 (zo rfl (fun h34 => ?_) (fun h34 => ?_))))
  ·try simp only [dq] at h34
   refine zR (zq (zS (z4 ?_)))
   have hu := unk_le (os := os) (ml := ml) (k := x) (v := val0 ml x + 1)
   refine yD (rows := (st.take (n1 - 1)).map iC) qP ?_
   exact zM ⟨_, _, _, st.take (n1 - 1), (put ml x (val0 ml x + 1)), ⟨hIx.old jO, by rw [List.length_take]; omega⟩, rfl, rfl, rfl, rfl⟩ qI (.c 1 rfl <| za _) (.c 0 rfl <| .c 5 rfl <| za _) qD qD qF
  ·try simp only [dq] at h34
   refine zm (z4 (z6 (z8 (z5 rfl rfl (zp rfl zu rfl qN ?_)))))
   refine zx rfl (ev2 rfl rfl) qD qS (look_spec (os := os) (x := x) jO hs) ?_
   rintro _ _ _ ⟨ka, kn, kc, rfl, hkn, rfl, rfl⟩
   refine zt qA qA ?_
   have hin := inC_len (lkR os x).1 ka kn kc
   have hp32 := (lkR os x).1.1.2
   have h8 := lkR_len os x
   refine z5 rfl rfl (zG rfl rfl rfl (zG rfl rfl rfl (zL rfl ze54 (fun b7 => ?_))))
   refine zE y9 rfl rfl qL qO qU qW ?_
   refine z9 rfl rfl (z7 (y1 (A := cl b7 54 (inC (lkR os x).1 ka kn kc)) qP ?_))
   refine z4 (z6 (z8 (z5 rfl rfl (z7 (z4 (zo rfl (fun h41 => ?_) (fun h41 => ?_)))))))
   ·try simp only [dq] at h41
    refine z8 (z5 rfl rfl (zj rfl fo54_1 rfl ?_))
    refine zh rfl sc30 rfl qC ?_
    refine xy rfl zA zA el38 rfl rfl qP (rd_D qM) one_ics qI qI (fun a45 c45 => ?_)
    refine z9 rfl rfl (z7 (zI (z4 ?_)))
    obtain ⟨hN, hu⟩ := hIx.new jO
    rw [if_pos h41] at hN hu
    refine y4 _ ((st.take (n1 - 1) ++ (lkR os x).2.1).map iC) qP (by rw [List.map_append]) ?_
    refine yD (rows := (st.take (n1 - 1) ++ (lkR os x).2.1).map iC) qP ?_
    exact zM ⟨_, _, _, st.take (n1 - 1) ++ (lkR os x).2.1, (put ml x (val0 ml x + 1)), ⟨hN, by rw [List.length_append, List.length_take]; omega⟩, rfl, rfl, rfl, rfl⟩ (by rw [List.length_append, List.length_append, List.length_singleton, List.length_take] at hu; omega) (.c 1 rfl <| za _) (.c 0 rfl <| .c 5 rfl <| za _) qD qD qF
   ·try simp only [dq] at h41
    refine zm (zI (z4 ?_))
    obtain ⟨hN, hu⟩ := hIx.new jO
    rw [if_neg (by rw [h41]; decide), List.append_nil] at hN hu
    refine yD (rows := (st.take (n1 - 1)).map iC) qP ?_
    exact zM ⟨_, _, _, st.take (n1 - 1), (put ml x (val0 ml x + 1)), ⟨hN, by rw [List.length_take]; omega⟩, rfl, rfl, rfl, rfl⟩ (by rw [List.length_append, List.length_singleton, List.length_take] at hu; omega) (.c 1 rfl <| za _) (.c 0 rfl <| .c 5 rfl <| za _) qD qD qF
 ·try simp only [dq] at h12
  obtain rfl : st = [] := List.length_eq_zero_iff.1 jO
  have hlen := hI.len
  refine T.mpNodup (kenc := aK) (venc := iK) qM (fun hnd => ?_)
  refine zR (zq (zq (zS (z4 (z6 (z8 (z5 rfl rfl (zx rfl (ev1 rfl) qD qS (keysfR_spec) ?_))))))))
  rintro _ _ _ ⟨kc, rfl, rfl, rfl⟩
  refine zt qA qA ?_
  refine zx rfl (ev2 rfl rfl) qD qS (sortedGR_spec (keys_iterR (ml := ml) (m := sm) (c := kc)) (fun pre x h => by omega) (fun xs h => by have := h.length_eq; rw [List.length_map] at this; omega)) ?_
  rintro _ _ _ ⟨ga, gn, gc, xs, us, rfl, hxs, hup, hus, hun, rfl, rfl⟩
  refine zt qA qA ?_
  exact z9 rfl rfl (z7 (z4 (zi (zz rfl rfl ⟨_, _, _, us, rfl, hI.out (keys_of hnd hxs hup hus), hun, (by have h1 := hup.length_eq; have h2 := hxs.length_eq; rw [List.length_map] at h2; omega), rfl, rfl⟩ qD qF))))
end Cv
set_option maxRecDepth 10000
namespace Cv
open Go Go.Proofs
/-! ## what names refer to: the reference -/
theorem nd_len {α : Type} [DecidableEq α] : ∀ {l m : List α}, l.Nodup → (∀ x ∈ l, x ∈ m) → l.length ≤ m.length
  | [], m, _, _ => Nat.zero_le _
  | x :: l, m, hn, hs => by
    obtain ⟨h1, h2⟩ := List.nodup_cons.1 hn
    have hx := hs x (List.mem_cons_self ..)
    have ih := nd_len (m := m.erase x) h2 fun y hy => (List.mem_erase_of_ne fun e => h1 (by rw [← e]; exact hy)).2 (hs y (List.mem_cons_of_mem _ hy))
    have := List.length_erase_of_mem hx
    have := List.length_pos_of_mem hx
    rw [List.length_cons]; omega
theorem asc_nd {l : List ID32} (h : l.Pairwise (fun x y => x.1 < y.1)) : l.Nodup := h.imp fun {a b} k e => by
  subst e; exact cfI_irr a (cmpB_lt.2 k)
structure GdR (os : List Ob) (l acc : List ID32) : Prop where
  asc : acc.Pairwise (fun x y => x.1 < y.1)
  rch : ∀ z ∈ acc, Rch os l z
  all : ∀ z ∈ l, z ∈ acc
def cand (os : List Ob) (l : List ID32) : List ID32 := l ++ os.flatMap fun o => (lkR os o.2.1).2.1
theorem cand_len (os : List Ob) (l : List ID32) : (cand os l).length ≤ l.length + 8 * os.length := by
  have : ∀ r : List Ob, (r.flatMap fun o => (lkR os o.2.1).2.1).length ≤ 8 * r.length := fun r => by
    induction r with
    | nil => exact Nat.le_refl _
    | cons o r ih => have := lkR_len os o.2.1; rw [List.flatMap_cons, List.length_append, List.length_cons]; omega
  have := this os
  unfold cand; rw [List.length_append]; omega
theorem rch_cand {os : List Ob} {l : List ID32} {z : ID32} (h : Rch os l z) : z ∈ cand os l := by
  cases h with
  | base h => exact List.mem_append_left _ h
  | step h k m =>
    obtain ⟨o, ho, rfl⟩ := lkR_mem k
    exact List.mem_append_right _ (List.mem_flatMap.2 ⟨o, ho, m⟩)
theorem GdR.len {os : List Ob} {l acc : List ID32} (h : GdR os l acc) : acc.length ≤ l.length + 8 * os.length :=
  Nat.le_trans (nd_len (asc_nd h.asc) fun z hz => rch_cand (h.rch z hz)) (cand_len os l)
theorem RchF.len {os : List Ob} {l us : List ID32} (h : RchF os l us) : us.length ≤ l.length + 8 * os.length := GdR.len ⟨h.asc, fun z hz => (h.mem z).1 hz, fun z hz => (h.mem z).2 (.base hz)⟩
theorem GdR.start (os : List Ob) (l : List ID32) : GdR os l (sortF l) := ⟨(sortF_names l).asc, fun z hz => .base (((sortF_names l).mem z).1 hz), fun z hz => ((sortF_names l).mem z).2 hz⟩
theorem GdR.add {os : List Ob} {l acc ys : List ID32} (h : GdR os l acc) (hy : ∀ y ∈ ys, Rch os l y) : GdR os l (ys.foldl withF acc) := by
  obtain ⟨h1, h2⟩ := sortF_go ys acc h.asc
  refine ⟨h1, fun z hz => ?_, fun z hz => (h2 z).2 (.inr (h.all z hz))⟩
  rcases (h2 z).1 hz with q | q
  · exact hy z q
  · exact h.rch z q
def pasS (os : List Ob) (acc : List ID32) (x : ID32) : List ID32 := if (lkR os x).2.2 = true then (lkR os x).2.1.foldl withF acc else acc
def pas (os : List Ob) (s : List ID32) (i : Nat) : List ID32 := (s.take i).foldl (pasS os) s
theorem pas_s {os : List Ob} {s : List ID32} {i : Nat} {x : ID32} (h : s[i]? = some x) : pas os s (i + 1) = pasS os (pas os s i) x := by
  unfold pas; rw [List.take_add_one, h, List.foldl_append]; rfl
theorem pasS_t {os : List Ob} {acc : List ID32} {x : ID32} (h : (lkR os x).2.2 = true) : pasS os acc x = (lkR os x).2.1.foldl withF acc := if_pos h
theorem pasS_f {os : List Ob} {acc : List ID32} {x : ID32} (h : (lkR os x).2.2 = false) : pasS os acc x = acc := if_neg (by rw [h]; decide)
theorem GdR.pasS {os : List Ob} {l acc : List ID32} {x : ID32} (h : GdR os l acc) (hx : Rch os l x) : GdR os l (pasS os acc x) := by
  unfold Cv.pasS
  split
  · rename_i c; exact h.add fun y hy => .step hx c hy
  · exact h
theorem GdR.fold {os : List Ob} {l : List ID32} : ∀ {xs acc : List ID32}, GdR os l acc → (∀ x ∈ xs, Rch os l x) → GdR os l (xs.foldl (Cv.pasS os) acc) ∧ (∀ z ∈ acc, z ∈ xs.foldl (Cv.pasS os) acc) ∧ ∀ x ∈ xs, (lkR os x).2.2 = true → ∀ y ∈ (lkR os x).2.1, y ∈ xs.foldl (Cv.pasS os) acc
  | [], acc, h, _ => ⟨h, fun z hz => hz, fun x hx => by cases hx⟩
  | x :: xs, acc, h, hx => by
    have h1 := h.pasS (hx x (List.mem_cons_self ..))
    obtain ⟨i1, i2, i3⟩ := GdR.fold (xs := xs) h1 fun y hy => hx y (List.mem_cons_of_mem _ hy)
    have up : ∀ z ∈ acc, z ∈ Cv.pasS os acc x := fun z hz => by
      unfold Cv.pasS
      split
      · exact ((sortF_go _ acc h.asc).2 z).2 (.inr hz)
      · exact hz
    refine ⟨i1, fun z hz => i2 z (up z hz), fun y hy k w hw => ?_⟩
    rcases List.mem_cons.1 hy with e | e
    · subst e
      refine i2 w ?_
      rw [pasS_t k]
      exact ((sortF_go _ acc h.asc).2 w).2 (.inl hw)
    · exact i3 y e k w hw
def clsd (os : List Ob) (s : List ID32) : Prop := ∀ x ∈ s, (lkR os x).2.2 = true → ∀ y ∈ (lkR os x).2.1, y ∈ s
def nkn (os : List Ob) (s : List ID32) : Nat := (os.filter fun o => decide (o.2.1 ∈ s)).length
structure PasI (os : List Ob) (l : List ID32) (s : List ID32) (k : Nat) : Prop where
  good : GdR os l s
  cl : clsd os s ∨ k ≤ nkn os s
theorem PasI.start (os : List Ob) (l : List ID32) : PasI os l (sortF l) 0 := ⟨.start os l, .inr (Nat.zero_le _)⟩
theorem PasI.next {os : List Ob} {l s : List ID32} {k : Nat} (h : PasI os l s k) : PasI os l (pas os s s.length) (k + 1) := by
  have e : pas os s s.length = s.foldl (pasS os) s := by unfold pas; rw [List.take_length]
  obtain ⟨i1, i2, i3⟩ := h.good.fold (xs := s) h.good.rch
  rw [e]
  refine ⟨i1, ?_⟩
  by_cases c : ∀ x ∈ s.foldl (pasS os) s, (lkR os x).2.2 = true → x ∈ s
  · exact .inl fun x hx k y hy => i3 x (c x hx k) k y hy
  · refine .inr ?_
    have ⟨x, hx⟩ := Classical.not_forall.1 c
    obtain ⟨hx, h2⟩ := Classical.not_imp.1 hx
    obtain ⟨hk, hn⟩ := Classical.not_imp.1 h2
    obtain ⟨o, ho, rfl⟩ := lkR_mem hk
    have hlt : nkn os s + 1 ≤ nkn os (s.foldl (pasS os) s) := filt_lt (fun y hy => decide_eq_true (i2 _ (of_decide_eq_true hy))) ⟨o, ho, decide_eq_true hx, decide_eq_false hn⟩
    rcases h.cl with q | q
    · exfalso
      have : ∀ {xs acc : List ID32}, (∀ z, z ∈ acc ↔ z ∈ s) → acc.Pairwise (fun x y => x.1 < y.1) → (∀ x ∈ xs, x ∈ s) → ∀ z, z ∈ xs.foldl (pasS os) acc ↔ z ∈ s := by
        intro xs
        induction xs with
        | nil => intro acc ha _ _ z; exact ha z
        | cons x xs ih =>
          intro acc ha hp hs
          have hx := hs x (List.mem_cons_self ..)
          rw [List.foldl_cons]
          by_cases k : (lkR os x).2.2 = true
          · rw [pasS_t k]
            obtain ⟨g1, g2⟩ := sortF_go (lkR os x).2.1 acc hp
            refine ih (fun z => ?_) g1 fun y hy => hs y (List.mem_cons_of_mem _ hy)
            rw [g2 z, ha z]
            exact ⟨fun r => r.elim (fun m => q x hx k z m) id, .inr⟩
          · rw [pasS_f (by simpa using k)]
            exact ih ha hp fun y hy => hs y (List.mem_cons_of_mem _ hy)
      exact hn ((this (fun z => Iff.rfl) h.good.asc (fun x hx => hx) o.2.1).1 hx)
    · omega
theorem PasI.fin {os : List Ob} {l s : List ID32} {k : Nat} (h : PasI os l s k) (e : os.length < k) : RchF os l s := by
  have hc : clsd os s := h.cl.resolve_right fun q => by
    have : nkn os s ≤ os.length := List.length_filter_le _ _
    omega
  refine ⟨h.good.asc, fun z => ⟨h.good.rch z, fun r => ?_⟩⟩
  induction r with
  | base hz => exact h.good.all _ hz
  | step _ k m ih => exact hc _ ih k _ m
theorem fold_s {acc ys : List ID32} {j : Nat} {y : ID32} (h : ys[j]? = some y) : (ys.take (j + 1)).foldl withF acc = withF ((ys.take j).foldl withF acc) y := by
  rw [List.take_add_one, h, List.foldl_append]; rfl
theorem GdR.part {os : List Ob} {l s : List ID32} {i j : Nat} {x : ID32} (h : GdR os l s) (hx : s[i]? = some x) (k : (lkR os x).2.2 = true) : GdR os l (((lkR os x).2.1.take j).foldl withF (pas os s i)) := by
  have h1 := (h.fold (xs := s.take i) fun y hy => h.rch y (List.mem_of_mem_take hy)).1
  exact GdR.add h1 fun y hy => .step (h.rch x (List.mem_of_getElem? hx)) k (List.mem_of_mem_take hy)
theorem GdR.pas {os : List Ob} {l s : List ID32} {i : Nat} (h : GdR os l s) : GdR os l (pas os s i) := (h.fold (xs := s.take i) fun y hy => h.rch y (List.mem_of_mem_take hy)).1

theorem rreach_spec {a b : Option Addr} {n c m d : Nat} {os : List Ob} {l : List ID32} (hn : n ≤ 3000) (hs : Shf os) (hm : m ≤ 10000) : Spec Tryz.prog 18 [.slice a n c, .slice b m d] [rsl 3 a n c (os.map obR), rsl 1 b m d (((l).map (·.1)).map ys)] [] (fun v D' M' => ∃ (a' : Option Addr) (n' c' : Nat) (us : List ID32), v = .slice a' n' c' ∧ (RchF os l us) ∧ (us.length = n') ∧ D' = [rsl 1 a' n' c' (((us).map (·.1)).map ys)] ∧ M' = []) := by
 refine zC (n := 47) Tryz.func18 ?_
 intro σ D M
 refine yH (a := a) (len := n) (cap := c) (rows := os.map obR) qM (fun hol hoc => ?_)
 rw [List.length_map] at hol
 refine yH (a := b) (len := m) (cap := d) (rows := (l.map (·.1)).map ys) qM (fun hll hlc => ?_)
 rw [List.length_map, List.length_map] at hll
 refine z6 (z8 (z9 rfl rfl (z7 (z4 (z6 (z8 (z5 rfl rfl (zx rfl (ev1 rfl) qD qS (rsorted_spec (l := l) jO) ?_))))))))
 rintro _ _ _ ⟨sa, sn, sc, rfl, hsn, rfl, rfl⟩
 refine zt qA qA ?_
 refine yZ (rows := ((sortF l).map (·.1)).map ys) qP ?_
 refine z9 rfl rfl (z7 (z4 (z6 (z6 (z8 (z9 rfl rfl (z7 (z4 (zr (zX (fun K' D' M' μ => ∃ (k n5 c5 : Nat) (a5 : Option Addr) (s : List ID32), (k ≤ os.length + 1 ∧ PasI os l s k ∧ s.length = n5) ∧ K' = [(6, .int .i64 (k : Int)), (5, .slice a5 n5 c5)] ∧ D' = [rsl 1 a5 n5 c5 (((s).map (·.1)).map ys)] ∧ M' = [] ∧ μ = os.length + 1 - k) (.c 0 rfl <| za _) (⟨0, sn, sc, sa, sortF l, ⟨Nat.zero_le _, .start os l, hsn⟩, rfl, rfl, rfl, rfl⟩) (.c 6 rfl <| .c 5 rfl <| za _) qD qS ?_))))))))))
 rintro K1 D1 M1 m1 ⟨k, n5, c5, a5, s, ⟨hk, hP, hsl⟩, rfl, rfl, rfl, rfl⟩
 refine zF qA qA qA ?_
 have hgl := hP.good.len
 refine z6 (z6 (z8 (z5 rfl rfl (z5 rfl rfl (y2 rfl xI rfl (L.leI rfl rfl rfl (z7 (z4 (zo rfl (fun h18 => ?_) (fun h18 => ?_))))))))))
 ·try simp only [dq] at h18
  refine zm (z4 (z6 (zr (z6 (z8 (z5 rfl rfl (y2 rfl yL rfl (z5 rfl rfl (z7 (z4 (zr (T.derive (φ := rsl 1 a5 n5 c5 (((s).map (·.1)).map ys)) (ψ := rsl 1 a5 n5 c5 (((pas os s 0).map (·.1)).map ys)) qM (fun z H => H) ?_))))))))))))
  refine zX (fun K' D' M' μ => ∃ (i n6 c6 : Nat) (a6 : Option Addr), (i ≤ n5 ∧ (pas os s i).length = n6) ∧ K' = [(23, .int .i64 (i : Int)), (5, .slice a6 n6 c6)] ∧ D' = [rsl 1 a6 n6 c6 (((pas os s i).map (·.1)).map ys)] ∧ M' = [] ∧ μ = n5 - i) (.c 0 rfl <| .c 6 rfl <| .c 21 rfl <| .c 22 rfl <| za _) (⟨0, n5, c5, a5, ⟨Nat.zero_le _, hsl⟩, rfl, rfl, rfl, rfl⟩) (.c 23 rfl <| .c 5 rfl <| za _) qD qS ?_
  rintro K1 D1 M1 m1 ⟨i, n6, c6, a6, ⟨hi, hpl⟩, rfl, rfl, rfl, rfl⟩
  refine zF qA qA qA ?_
  refine z6 (z8 (zQ rfl rfl rfl (z7 (z4 (z6 (zo rfl (fun h24 => ?_) (fun h24 => ?_)))))))
  ·try simp only [dq] at h24
   refine zm (z4 (z6 (zr (z6 ?_))))
   have hgx : (s)[i]? = some (gd (s) i) := zJ jO
   obtain ⟨x, hx_⟩ : ∃ z, z = gd (s) i := ⟨_, rfl⟩
   rw [← hx_] at hgx
   clear hx_
   have hmx : ((s).map (·.1))[i]? = some x.1 := zU hgx
   have hrx : (((s).map (·.1)).map ys)[i]? = some (ys x.1) := zU hmx
   refine z8 (yI (i := i) rfl yL sz9 rfl rfl qM jR qG (fun b25 o25 => ?_))
   refine zh rfl sc9 rfl qC ?_
   refine z9 rfl rfl (z7 (z4 (z6 (z8 (z5 rfl rfl (z5 rfl rfl (zx rfl (ev2 rfl rfl) qD qS (rlook_spec (os := os) (x := x) jO hs) ?_)))))))
   rintro _ _ _ ⟨ka, kn, kc, cs, rfl, hcs, hco, hkn, hce, rfl, rfl⟩
   refine zt qA qA ?_
   have hk8 := lkR_len os x
   refine yZ (rows := (((lkR os x).2.1).map (·.1)).map ys) qP ?_
   refine z5 rfl rfl (zG rfl rfl rfl (zG rfl rfl rfl (zL rfl ze107 (fun b9 => ?_))))
   refine zE ag107 rfl rfl qL qO qU qW ?_
   refine z9 rfl rfl (z7 (y1 (A := cl b9 107 cs) qP ?_))
   refine z4 (z6 (z8 (z5 rfl rfl (z7 (z4 (zo rfl (fun h33 => ?_) (fun h33 => ?_)))))))
   ·try simp only [dq] at h33
    obtain rfl := hce h33
    have hgp := hP.good.part (j := 0) hgx h33
    refine z6 (z8 (zj rfl fo107_1 rfl ?_))
    refine zh rfl sc31 rfl qC ?_
    refine y2 rfl yL rfl (z5 rfl rfl (z7 (z4 (zr (T.derive (φ := rsl 1 a6 n6 c6 (((pas os s i).map (·.1)).map ys)) (ψ := rsl 1 a6 n6 c6 (((((lkR os x).2.1.take 0).foldl withF (pas os s i)).map (·.1)).map ys)) qM (fun z H => H) ?_)))))
    refine zX (fun K' D' M' μ => ∃ (j n7 c7 : Nat) (a7 : Option Addr), (j ≤ kn ∧ (((lkR os x).2.1.take j).foldl withF (pas os s i)).length = n7) ∧ K' = [(37, .int .i64 (j : Int)), (5, .slice a7 n7 c7)] ∧ D' = [rsl 1 a7 n7 c7 (((((lkR os x).2.1.take j).foldl withF (pas os s i)).map (·.1)).map ys)] ∧ M' = [] ∧ μ = kn - j) (.c 0 rfl <| .c 6 rfl <| .c 21 rfl <| .c 22 rfl <| .c 23 rfl <| .c 35 rfl <| .c 36 rfl <| za _) (⟨0, n6, c6, a6, ⟨Nat.zero_le _, hpl⟩, rfl, rfl, rfl, rfl⟩) (.c 37 rfl <| .c 5 rfl <| za _) qD qS ?_
    rintro K1 D1 M1 m1 ⟨j, n7, c7, a7, ⟨hj, hql⟩, rfl, rfl, rfl, rfl⟩
    refine zF qA qA qA ?_
    have hqg := (hP.good.part (j := j) hgx h33).len
    refine z6 (z8 (zQ rfl rfl rfl (z7 (z4 (z6 (zo rfl (fun h38 => ?_) (fun h38 => ?_)))))))
    ·try simp only [dq] at h38
     refine zm (z4 (z6 (zr (z6 ?_))))
     have hgy : ((lkR os x).2.1)[j]? = some (gd ((lkR os x).2.1) j) := zJ jO
     obtain ⟨y, hy_⟩ : ∃ z, z = gd ((lkR os x).2.1) j := ⟨_, rfl⟩
     rw [← hy_] at hgy
     clear hy_
     have hmy : (((lkR os x).2.1).map (·.1))[j]? = some y.1 := zU hgy
     have hry : ((((lkR os x).2.1).map (·.1)).map ys)[j]? = some (ys y.1) := zU hmy
     refine z8 (yI (i := j) rfl yL sz9 rfl rfl qM jR qG (fun b39 o39 => ?_))
     refine zh rfl sc9 rfl qC ?_
     refine z9 rfl rfl (z7 (z4 (z8 (z5 rfl rfl (z5 rfl rfl (zx rfl (ev2 rfl rfl) qD qS (with_spec (l := ((lkR os x).2.1.take j).foldl withF (pas os s i)) (z := y) jO) ?_))))))
     rintro _ _ _ ⟨wa, wn, wc, rfl, hwn, rfl, rfl⟩
     refine zt qA qA ?_
     refine yZ (rows := ((withF (((lkR os x).2.1.take j).foldl withF (pas os s i)) y).map (·.1)).map ys) qP ?_
     refine z9 rfl rfl (z7 (zI (z4 (z8 (zH rfl rfl rfl jO ?_)))))
     refine z5 rfl rfl (z7 (z4 (T.derive (φ := rsl 1 wa wn wc (((withF (((lkR os x).2.1.take j).foldl withF (pas os s i)) y).map (·.1)).map ys)) (ψ := rsl 1 wa wn wc (((((lkR os x).2.1.take (j + 1)).foldl withF (pas os s i)).map (·.1)).map ys)) qM (fun z H => by rw [fold_s hgy]; exact H) ?_)))
     exact zM ⟨j + 1, _, _, _, ⟨by omega, by rw [fold_s hgy]; exact hwn⟩, rfl, rfl, rfl, rfl⟩ qI (.c 37 rfl <| .c 5 rfl <| za _) (.c 0 rfl <| .c 6 rfl <| .c 21 rfl <| .c 22 rfl <| .c 23 rfl <| .c 35 rfl <| .c 36 rfl <| za _) qD qD qF
    ·try simp only [dq] at h38
     obtain rfl : kn = j := by omega
     refine zR (zq (zq (zS (zI (z4 (z8 (zH rfl rfl rfl jO ?_)))))))
     refine z5 rfl rfl (z7 (z4 ?_))
     rw [List.take_of_length_le jO] at hql
     refine T.derive (φ := rsl 1 a7 n7 c7 (((((lkR os x).2.1.take kn).foldl withF (pas os s i)).map (·.1)).map ys)) (ψ := rsl 1 a7 n7 c7 (((pas os s (i + 1)).map (·.1)).map ys)) qM (fun z H => by rw [pas_s hgx, pasS_t h33]; rw [List.take_of_length_le jO] at H; exact H) ?_
     exact zM ⟨i + 1, _, _, _, ⟨by omega, by rw [pas_s hgx, pasS_t h33]; exact hql⟩, rfl, rfl, rfl, rfl⟩ qI (.c 23 rfl <| .c 5 rfl <| za _) (.c 0 rfl <| .c 6 rfl <| .c 21 rfl <| .c 22 rfl <| za _) qD qD qF
   ·try simp only [dq] at h33
    refine zm (zI (z4 (z8 (zH rfl rfl rfl jO ?_))))
    refine z5 rfl rfl (z7 (z4 (T.derive (φ := rsl 1 a6 n6 c6 (((pas os s i).map (·.1)).map ys)) (ψ := rsl 1 a6 n6 c6 (((pas os s (i + 1)).map (·.1)).map ys)) qM (fun z H => by rw [pas_s hgx, pasS_f h33]; exact H) ?_)))
    exact zM ⟨i + 1, _, _, _, ⟨by omega, by rw [pas_s hgx, pasS_f h33]; exact hpl⟩, rfl, rfl, rfl, rfl⟩ qI (.c 23 rfl <| .c 5 rfl <| za _) (.c 0 rfl <| .c 6 rfl <| .c 21 rfl <| .c 22 rfl <| za _) qD qD qF
  ·try simp only [dq] at h24
   obtain rfl : n5 = i := by omega
   refine zR (zq (zq (zS (zI (z4 (z8 (z5 rfl rfl (zH rfl rfl rfl jO ?_))))))))
   exact z9 rfl rfl (z7 (z4 (zM ⟨k + 1, _, _, _, pas os s n5, ⟨by omega, by rw [← hsl]; exact hP.next, hpl⟩, rfl, rfl, rfl, rfl⟩ qI (.c 6 rfl <| .c 5 rfl <| za _) (.c 0 rfl <| za _) qD qD qF)))
 ·try simp only [dq] at h18
  obtain rfl : k = os.length + 1 := by omega
  exact zR (zq (zq (zS (z4 (z6 (z8 (z5 rfl rfl (z9 rfl rfl (z7 (z4 (zi (zz rfl rfl ⟨_, _, _, s, rfl, hP.fin jO, hsl, rfl, rfl⟩ qD qF))))))))))))
end Cv
