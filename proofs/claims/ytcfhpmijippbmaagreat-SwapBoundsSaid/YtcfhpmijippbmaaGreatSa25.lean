/-
  The walks: the swap and the document's.
-/
import Derived.Test.YtcfhpmijippbmaaGreatRh25
import Derived.Test.YtcfhpmijippbmaaGreatProg
import Derived.KernelRfl
set_option linter.unusedVariables false
set_option linter.unusedSimpArgs false
set_option linter.unusedSectionVars false
set_option maxRecDepth 10000
namespace Cv
open Go Go.Proofs
/-! ## the swap and the document's: plain laws -/
theorem lk_app {l r : List (LK × Int)} {k : LK} : look (l ++ r) k = match look l k with | some v => some v | none => look r k := by
  induction l with
  | nil => rfl
  | cons p l ih =>
    obtain ⟨a, b⟩ := p
    simp only [List.cons_append, look]
    split
    · rfl
    · exact ih
theorem lk_fil {l : List (LK × Int)} {n k : LK} : look (l.filter (fun p => decide (p.1 ≠ n))) k = if k = n then none else look l k := by
  induction l with
  | nil => simp [look]
  | cons p l ih =>
    obtain ⟨a, b⟩ := p
    by_cases e : a = n
    · subst e
      rw [List.filter_cons, if_neg (by simp), ih]
      by_cases e2 : k = a
      · rw [if_pos e2, if_pos e2]
      · rw [if_neg e2, if_neg e2]; simp only [look]; rw [if_neg (Ne.symm e2)]
    · rw [List.filter_cons, if_pos (by simpa using e)]
      simp only [look]
      by_cases e2 : a = k
      · subst e2; rw [if_pos rfl, if_neg e, if_pos rfl]
      · rw [if_neg e2, ih, if_neg e2]
theorem look_setK {l : List (LK × Int)} {n k : LK} {u : Int} : look (setK l n u) k = if k = n then some u else look l k := by
  unfold setK
  rw [lk_app, lk_fil]
  by_cases e : k = n
  · subst e; simp [look]
  · rw [if_neg e, if_neg e]
    cases h : look l k with
    | some v => rfl
    | none => simp [look, Ne.symm e]
theorem nd_setK {l : List (LK × Int)} {n : LK} {u : Int} (h : (l.map Prod.fst).Nodup) : ((setK l n u).map Prod.fst).Nodup := by
  unfold setK
  rw [List.map_append, List.nodup_append]
  refine ⟨(List.Sublist.map _ List.filter_sublist).nodup h, by simp, ?_⟩
  intro a ha b hb
  obtain ⟨e, he, rfl⟩ := List.mem_map.1 ha
  have h2 := (List.mem_filter.1 he).2
  simp only [List.map_cons, List.map_nil, List.mem_singleton] at hb
  subst hb
  simpa using h2
theorem setK_len {l : List (LK × Int)} {n : LK} {u : Int} : (setK l n u).length ≤ l.length + 1 := by
  unfold setK
  have := List.length_filter_le (fun e : LK × Int => decide (e.1 ≠ n)) l
  rw [List.length_append]; simp only [List.length_singleton]; omega
theorem look_filt {l : List (LK × Int)} {k : LK} {p : LK × Int → Bool} (h : (l.map Prod.fst).Nodup) (v : Int) : look (l.filter p) k = some v ↔ look l k = some v ∧ p (k, v) = true := by
  have hn : ((l.filter p).map Prod.fst).Nodup := (List.Sublist.map _ List.filter_sublist).nodup h
  constructor
  · intro e
    have h1 := List.mem_filter.1 (mem_of_look e)
    exact ⟨look_of_mem h h1.1, h1.2⟩
  · rintro ⟨e, hp⟩
    exact look_of_mem hn (List.mem_filter.2 ⟨mem_of_look e, hp⟩)
theorem same_filt {l m : List (LK × Int)} {p : LK × Int → Bool} (hl : (l.map Prod.fst).Nodup) (hm : (m.map Prod.fst).Nodup) (h : ∀ k, look l k = look m k) (k : LK) : look (l.filter p) k = look (m.filter p) k := by
  apply Option.ext
  intro v
  rw [look_filt hl, look_filt hm, h]
theorem okw_same {ll lk : List (LK × Int)} (h : ∀ k, look ll k = look lk k) (o : Int) (ol : List Ord) (id : ID32) : okW o ol ll id = okW o ol lk id := by
  funext y; unfold okW; rw [h]
/-! ### orders -/
structure OInv (ol : List Ord) (sq : Int) : Prop where
  lo : ol.length ≤ 8
  sqs : ∀ x ∈ ol, 0 ≤ x.2.2.1 ∧ x.2.2.1 ≤ sq
  nsq : (ol.map fun x => x.2.2.1).Nodup
  nid : (ol.map fun x => x.1.2.1.1).Nodup
  of_ : ∀ x ∈ ol, 0 ≤ x.2.1 ∧ x.2.1 ≤ 15 ∧ x.2.1 ≠ 1
  since : ∀ x ∈ ol, 0 ≤ x.2.2.2 ∧ x.2.2.2 ≤ 10000
  chunk : ∀ x ∈ ol, ∃ m, 0 ≤ m ∧ m < 20 ∧ x.1 = chW m
  most : ∀ n, cntO ol n ≤ 4
theorem OInv.nil {sq : Int} : OInv [] sq := ⟨by simp, by simp, by simp, by simp, by simp, by simp, by simp, fun n => by simp [cntO]⟩
theorem OInv.sub {ol ol' : List Ord} {sq : Int} (h : OInv ol sq) (s : ol'.Sublist ol) : OInv ol' sq where
  lo := Nat.le_trans s.length_le h.lo
  sqs x hx := h.sqs x (s.subset hx)
  nsq := (s.map _).nodup h.nsq
  nid := (s.map _).nodup h.nid
  of_ x hx := h.of_ x (s.subset hx)
  since x hx := h.since x (s.subset hx)
  chunk x hx := h.chunk x (s.subset hx)
  most n := Nat.le_trans (s.filter _).length_le (h.most n)
theorem OInv.more {ol : List Ord} {sq n now : Int} {w : Wnt} (h : OInv ol sq) (h8 : ol.length < 8) (hid : ordB ol w.2.1 = false) (hn : 0 ≤ n ∧ n ≤ 15 ∧ n ≠ 1) (hc : cntO ol n < 4) (hw : ∃ m, 0 ≤ m ∧ m < 20 ∧ w = chW m) (h0 : 0 ≤ sq) (hnow : 0 ≤ now ∧ now ≤ 10000) : OInv (ol ++ [(w, n, sq + 1, now)]) (sq + 1) where
  lo := by rw [List.length_append, List.length_singleton]; omega
  sqs x hx := by
    rcases List.mem_append.1 hx with e | e
    · have := h.sqs x e; omega
    · simp at e; subst e; exact ⟨by show 0 ≤ sq + 1; omega, Int.le_refl _⟩
  nsq := by
    rw [List.map_append, List.nodup_append]
    refine ⟨h.nsq, by simp, ?_⟩
    intro a ha b hb
    obtain ⟨x, hx, rfl⟩ := List.mem_map.1 ha
    simp only [List.map_cons, List.map_nil, List.mem_singleton] at hb
    subst hb
    have := (h.sqs x hx).2
    omega
  nid := by
    rw [List.map_append, List.nodup_append]
    refine ⟨h.nid, by simp, ?_⟩
    intro a ha b hb
    obtain ⟨x, hx, rfl⟩ := List.mem_map.1 ha
    simp only [List.map_cons, List.map_nil, List.mem_singleton] at hb
    subst hb
    intro e
    rw [ord_yes hx e] at hid
    cases hid
  of_ x hx := by
    rcases List.mem_append.1 hx with e | e
    · exact h.of_ x e
    · simp at e; subst e; exact hn
  since x hx := by
    rcases List.mem_append.1 hx with e | e
    · exact h.since x e
    · simp at e; subst e; exact hnow
  chunk x hx := by
    rcases List.mem_append.1 hx with e | e
    · exact h.chunk x e
    · simp at e; subst e; exact hw
  most k := by
    have := h.most k
    unfold cntO at *
    rw [List.filter_append, List.length_append]
    by_cases e : n = k
    · subst e; simp; omega
    · simp [e]; omega
theorem refw_in {F : Int → Mind} {hs : List Int} {now o : Int} {ol : List Ord} {ll : List (LK × Int)} {id : ID32} {n : Int} (e : n = refW F hs now o ol ll id) (h : 0 ≤ n) : n ∈ hs ∧ mayB F n now = true ∧ okW o ol ll id n = true := by
  unfold refW at e
  cases hf : (sortR (cR F) (fun x => mayB F x now) hs hs.length).find? (okW o ol ll id) with
  | none => rw [hf] at e; simp at e; omega
  | some v =>
    rw [hf] at e; simp at e; subst e
    have h1 := List.mem_of_find?_eq_some hf
    have h2 := List.find?_some hf
    have hp := sortR_perm (c := cR F) (may := fun x => mayB F x now) (all := hs) hs.length (Nat.le_refl _)
    rw [List.take_length] at hp
    have h3 := List.mem_filter.1 (hp.mem_iff.1 h1)
    exact ⟨h3.1, h3.2, h2⟩
theorem whomR_ref {F : Int → Mind} {hs : List Int} {now o : Int} {ol : List Ord} {lk ll : List (LK × Int)} {id : ID32} {n : Int} {ok : Bool} (hsame : ∀ k, look ll k = look lk k) (hpos : ∀ h ∈ hs, 0 ≤ h) (h : WhomR F hs now o ol lk id n ok) : (ok = true → n = refW F hs now o ol ll id ∧ 0 ≤ n) ∧ (ok = false → refW F hs now o ol ll id < 0) := by
  obtain ⟨ys, hp, hs_, h⟩ := h
  have hys := sort_same (may' := fun x => mayB F x now) hp hs_ (fun _ => rfl)
  have hok := okw_same hsame o ol id
  constructor
  · rintro rfl
    rcases h with ⟨_, h⟩ | ⟨h, _⟩
    · have e : n = refW F hs now o ol ll id := by unfold refW; rw [← hys, hok, h]; rfl
      refine ⟨e, ?_⟩
      have h1 := List.mem_of_find?_eq_some h
      exact hpos n (List.mem_filter.1 (hp.mem_iff.1 h1)).1
    · cases h
  · rintro rfl
    rcases h with ⟨h, _⟩ | ⟨_, h⟩
    · cases h
    · unfold refW; rw [← hys, hok, h]; decide
theorem askF_full {F : Int → Mind} {hs : List Int} {now o : Int} {ll : List (LK × Int)} : ∀ {ws : List Wnt} {ol out : List Ord} {sq : Int}, 8 ≤ ol.length → askF F hs now o ll ws ol sq out = (ol, sq, out)
  | [], _, _, _, _ => rfl
  | w :: ws, ol, out, sq, h => by rw [ask_no (.inl h)]; exact askF_full h
theorem askR_ref {F : Int → Mind} {hs : List Int} {now o : Int} {lk ll : List (LK × Int)} (hsame : ∀ k, look ll k = look lk k) (hpos : ∀ h ∈ hs, 0 ≤ h) {ws : List Wnt} {ol out ol' out' : List Ord} {sq sq' : Int} (h : AskR F hs now o lk ws ol sq out ol' sq' out') : askF F hs now o ll ws ol sq out = (ol', sq', out') := by
  induction h with
  | nil => rfl
  | stop h => exact askF_full h
  | @skip w ws l s out l' s' out' h1 h2 _ ih =>
    rcases h2 with ⟨x, hx, e⟩ | ⟨n, hn⟩
    · rw [ask_no (.inr (.inl (ord_yes hx e)))]; exact ih
    · rw [ask_no (.inr (.inr ((whomR_ref hsame hpos hn).2 rfl)))]; exact ih
  | @ask w ws l s out l' s' out' n h1 h2 h3 _ ih =>
    have h4 := (whomR_ref hsame hpos h3).1 rfl
    rw [ask_yes h1 (ord_no h2) h4.1 h4.2]; exact ih
theorem ask_inv {F : Int → Mind} {hs : List Int} {now : Int} {ll : List (LK × Int)} (hpos : ∀ h ∈ hs, 0 ≤ h ∧ h ≤ 15) (hnow : 0 ≤ now ∧ now ≤ 10000) {P : Ord → Prop} (hP : ∀ w n s, (∃ m, 0 ≤ m ∧ m < 20 ∧ w = chW m) → 0 ≤ n ∧ n ≤ 15 ∧ n ≠ 1 → mayB F n now = true → 0 ≤ s → P (w, n, s, now)) :
    ∀ {ws : List Wnt} {ol out : List Ord} {sq : Int}, (∀ w ∈ ws, ∃ m, 0 ≤ m ∧ m < 20 ∧ w = chW m) → OInv ol sq → 0 ≤ sq → (∀ x ∈ out, P x) →
    OInv (askF F hs now 1 ll ws ol sq out).1 (askF F hs now 1 ll ws ol sq out).2.1 ∧ (sq ≤ (askF F hs now 1 ll ws ol sq out).2.1 ∧ (askF F hs now 1 ll ws ol sq out).2.1 ≤ sq + ws.length) ∧ ∀ x ∈ (askF F hs now 1 ll ws ol sq out).2.2, P x
  | [], ol, out, sq, _, h, _, ho => ⟨h, ⟨Int.le_refl _, by simp [askF]⟩, ho⟩
  | w :: ws, ol, out, sq, hw, h, h0, ho => by
    have hws : ∀ w ∈ ws, ∃ m, 0 ≤ m ∧ m < 20 ∧ w = chW m := fun x hx => hw x (List.mem_cons_of_mem _ hx)
    by_cases hc : 8 ≤ ol.length ∨ ordB ol w.2.1 = true ∨ refW F hs now 1 ol ll w.2.1 < 0
    · rw [ask_no hc]
      have := ask_inv (ll := ll) hpos hnow hP hws h h0 ho
      refine ⟨this.1, ⟨this.2.1.1, ?_⟩, this.2.2⟩
      have := this.2.1.2
      simp only [List.length_cons]; omega
    · have h1 : ol.length < 8 := by
        rcases Nat.lt_or_ge ol.length 8 with h1 | h1
        · exact h1
        · exact absurd (.inl h1) hc
      have h2 : ordB ol w.2.1 = false := by
        cases e : ordB ol w.2.1 with
        | false => rfl
        | true => exact absurd (.inr (.inl e)) hc
      obtain ⟨n, hn⟩ : ∃ n, n = refW F hs now 1 ol ll w.2.1 := ⟨_, rfl⟩
      have h3 : 0 ≤ n := by
        rw [hn]
        rcases Decidable.em (refW F hs now 1 ol ll w.2.1 < 0) with e | e
        · exact absurd (.inr (.inr e)) hc
        · omega
      rw [ask_yes h1 h2 hn h3]
      obtain ⟨i1, i2, i3⟩ := refw_in hn h3
      have i4 := of_decide_eq_true i3
      have hnb : 0 ≤ n ∧ n ≤ 15 ∧ n ≠ 1 := ⟨(hpos n i1).1, (hpos n i1).2, i4.2.2⟩
      have hwc := hw w (List.mem_cons_self ..)
      have := ask_inv (ll := ll) hpos hnow hP hws (h.more h1 h2 hnb i4.2.1 hwc h0 hnow) (by omega) (out := out ++ [(w, n, sq + 1, now)]) (fun x hx => by
        rcases List.mem_append.1 hx with e | e
        · exact ho x e
        · simp at e; subst e; exact hP w n (sq + 1) hwc hnb i2 (by omega))
      refine ⟨this.1, ⟨by have := this.2.1.1; omega, ?_⟩, this.2.2⟩
      have := this.2.1.2
      simp only [List.length_cons]; omega
theorem chs_in {xs : List Int} : ∀ w ∈ chs xs, ∃ m, 0 ≤ m ∧ m < 20 ∧ w = chW m := fun w hw => by
  obtain ⟨n, _, rfl⟩ := List.mem_map.1 hw
  exact ⟨n20 n, (n20_in n).1, (n20_in n).2, rfl⟩
theorem chs_len {xs : List Int} : (chs xs).length ≤ 12 := by unfold chs chsI; rw [List.length_map, List.length_take]; omega
theorem hsF_in {xs : List Int} : ∀ h ∈ hsF xs, 0 ≤ h ∧ h ≤ 15 := fun h hh => by
  obtain ⟨n, _, rfl⟩ := List.mem_map.1 hh
  omega


end Cv
