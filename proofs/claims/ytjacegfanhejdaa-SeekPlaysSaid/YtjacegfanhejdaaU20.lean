/-
  The walks: a search among nodes that know some others.
-/
import Derived.Test.YtjacegfanhejdaaS20
import Derived.Test.YtjacegfanhejdaaProg
import Derived.KernelRfl
set_option linter.unusedVariables false
set_option linter.unusedSimpArgs false
set_option linter.unusedSectionVars false
set_option maxRecDepth 10000
namespace Cv
open Go Go.Proofs
/-! ## a search among nodes that know some others -/
def incF (m : List (Int × Int)) (ps : List Int) : List (Int × Int) := ps.foldl (fun m p => put m p ((look m p).getD 0 + 1)) m
def cn (m : List (Int × Int)) (n : Int) : Int := (look m n).getD 0
theorem cn_put {m : List (Int × Int)} {k n v : Int} : cn (put m k v) n = if n = k then v else cn m n := by
  unfold cn; rw [look_put]; split <;> rfl
theorem cn_inc {n : Int} : ∀ {ps : List Int} {m : List (Int × Int)}, cn m n ≤ cn (incF m ps) n ∧ cn (incF m ps) n ≤ cn m n + ps.length ∧ (cn m n < cn (incF m ps) n ↔ n ∈ ps)
  | [], m => ⟨Int.le_refl _, by simp [incF], by simp [incF]⟩
  | p :: ps, m => by
    have ih := cn_inc (n := n) (ps := ps) (m := put m p ((look m p).getD 0 + 1))
    have e : incF m (p :: ps) = incF (put m p ((look m p).getD 0 + 1)) ps := rfl
    rw [e]
    have hp : cn (put m p ((look m p).getD 0 + 1)) n = if n = p then cn m p + 1 else cn m n := cn_put
    rw [hp] at ih
    simp only [List.mem_cons, List.length_cons]
    by_cases h : n = p
    · subst h
      rw [if_pos rfl] at ih
      exact ⟨by omega, by omega, ⟨fun _ => .inl rfl, fun _ => by omega⟩⟩
    · rw [if_neg h] at ih
      exact ⟨by omega, by omega, by rw [ih.2.2]; simp [h]⟩
theorem incF_take {m : List (Int × Int)} {ps : List Int} {i : Nat} {n : Int} (h : ps[i]? = some n) : incF m (ps.take (i + 1)) = put (incF m (ps.take i)) n ((look (incF m (ps.take i)) n).getD 0 + 1) := by
  unfold incF; exact fold_snoc h
theorem look_meet {o n : Int} : ∀ {ns : List Int} {lo : OfM}, look (meetF o lo ns) n = if look lo n = none ∧ n ∈ ns ∧ May o n then some (0, 0) else look lo n
  | [], lo => by simp [meetF]
  | p :: ns, lo => by
    have e : meetF o lo (p :: ns) = meetF o (meet1 o lo p) ns := rfl
    rw [e, look_meet]
    unfold meet1
    by_cases h : look lo p = none ∧ May o p
    · rw [if_pos h, look_put]
      by_cases hn : n = p
      · subst hn
        rw [if_pos rfl, if_neg (fun q => by cases q.1), if_pos ⟨h.1, List.mem_cons_self .., h.2⟩]
      · rw [if_neg hn]
        simp [hn]
    · rw [if_neg h]
      by_cases hn : n = p
      · subst hn
        by_cases h2 : look lo n = none
        · have : ¬ May o n := fun q => h ⟨h2, q⟩
          rw [if_neg (fun q => this q.2.2), if_neg (fun q => this q.2.2)]
        · rw [if_neg (fun q => h2 q.1), if_neg (fun q => h2 q.1)]
      · simp [hn]
theorem nd_meet {o : Int} : ∀ {ns : List Int} {lo : OfM}, (lo.map Prod.fst).Nodup → ((meetF o lo ns).map Prod.fst).Nodup
  | [], lo, h => h
  | p :: ns, lo, h => by
    have e : meetF o lo (p :: ns) = meetF o (meet1 o lo p) ns := rfl
    rw [e]
    refine nd_meet ?_
    unfold meet1
    split
    · exact nodup_put h
    · exact h
theorem look_late {now : Int} {k : Int} : ∀ {lo : OfM}, look (lateF now lo) k = (look lo k).map (lateP now)
  | [] => rfl
  | (k', v) :: lo => by
    have ih := look_late (now := now) (k := k) (lo := lo)
    have e : lateF now ((k', v) :: lo) = (k', lateP now v) :: lateF now lo := rfl
    rw [e]
    simp only [look]
    by_cases h : k' = k
    · rw [if_pos h, if_pos h]; rfl
    · rw [if_neg h, if_neg h]; exact ih
/-- those that have told, and the silent ones -/
def wcF (lo : OfM) : Nat := ((List.range 64).filter fun n : Nat => decide (2 ≤ stO lo (n : Int))).length
theorem wc_le (lo : OfM) : wcF lo ≤ 64 := by
  have := List.length_filter_le (fun n : Nat => decide (2 ≤ stO lo (n : Int))) (List.range 64)
  rw [List.length_range] at this
  exact this
theorem filter_le {α : Type} {p q : α → Bool} : ∀ {l : List α}, (∀ x ∈ l, p x = true → q x = true) → (l.filter p).length ≤ (l.filter q).length
  | [], _ => Nat.le_refl _
  | x :: l, h => by
    have ih := filter_le (fun y hy => h y (List.mem_cons_of_mem _ hy))
    have h0 := h x (List.mem_cons_self ..)
    rw [List.filter_cons, List.filter_cons]
    by_cases hp : p x = true
    · rw [if_pos hp, if_pos (h0 hp), List.length_cons, List.length_cons]; omega
    · rw [if_neg hp]
      split
      · rw [List.length_cons]; omega
      · exact ih
theorem filter_lt {α : Type} {p q : α → Bool} {x : α} : ∀ {l : List α}, x ∈ l → (∀ x ∈ l, p x = true → q x = true) → p x = false → q x = true → (l.filter p).length < (l.filter q).length
  | y :: l, hx, h, h1, h2 => by
    have hl := filter_le (fun z hz => h z (List.mem_cons_of_mem _ hz))
    have h0 := h y (List.mem_cons_self ..)
    rw [List.filter_cons, List.filter_cons]
    rcases List.mem_cons.1 hx with e | e
    · subst e
      rw [if_neg (by rw [h1]; decide), if_pos h2, List.length_cons]; omega
    · have ih := filter_lt e (fun z hz => h z (List.mem_cons_of_mem _ hz)) h1 h2
      by_cases hp : p y = true
      · rw [if_pos hp, if_pos (h0 hp), List.length_cons, List.length_cons]; omega
      · rw [if_neg hp]
        split
        · rw [List.length_cons]; omega
        · exact ih
theorem wc_mono {lo lc : OfM} (h : ∀ n, 2 ≤ stO lo n → 2 ≤ stO lc n) : wcF lo ≤ wcF lc := filter_le fun x _ hx => by simp only [decide_eq_true_eq] at *; exact h _ hx
theorem wc_lt {lo lc : OfM} (h : ∀ n, 2 ≤ stO lo n → 2 ≤ stO lc n) {n : Int} (hn : 0 ≤ n ∧ n < 64) (h1 : ¬ 2 ≤ stO lo n) (h2 : 2 ≤ stO lc n) : wcF lo < wcF lc := by
  refine filter_lt (x := n.toNat) (List.mem_range.2 (by omega)) (fun x _ hx => by simp only [decide_eq_true_eq] at *; exact h _ hx) ?_ ?_
  · rw [Int.toNat_of_nonneg hn.1]; exact decide_eq_false h1
  · rw [Int.toNat_of_nonneg hn.1]; exact decide_eq_true h2
def GV (q : Int → Bool) (t : Nat) (n : Int) (v : Int × Int) : Prop := (0 ≤ v.2 ∧ v.2 ≤ 1000000) ∧ (v.1 = 0 ∨ (v.1 = 1 ∧ q n = true ∧ v.2 ≤ t) ∨ (v.1 = 2 ∧ q n = false) ∨ (v.1 = 3 ∧ q n = true))
structure GI (q : Int → Bool) (t : Nat) (lo : OfM) (mw aw : List (Int × Int)) : Prop where
  key : ∀ n v, look lo n = some v → May 63 n ∧ GV q t n v
  aw : ∀ n, look aw n = if stO lo n ≠ 0 then some 1 else none
  hm : ∀ n, May 63 n → (0 < cn mw n ↔ look lo n ≠ none)
  mb : ∀ n, 0 ≤ cn mw n ∧ cn mw n ≤ 8 + 24 * (t : Int)
  pot : ∃ b : Nat, t + 576 + b ≤ 584 + 9 * wcF lo ∧ (b = 8 ∨ (b < 8 ∧ ∃ n v, look lo n = some v ∧ v.1 = 1 ∧ v.2 + 8 ≤ (t : Int) + b))
theorem GI.len {q : Int → Bool} {t : Nat} {lo : OfM} {mw aw : List (Int × Int)} (h : GI q t lo mw aw) (hnd : (lo.map Prod.fst).Nodup) : lo.length ≤ 64 := by
  have := nodup_le (m := (List.range 64).map fun n : Nat => (n : Int)) hnd (fun x hx => by
    obtain ⟨p, hp, rfl⟩ := List.mem_map.1 hx
    have := (h.key p.1 p.2 (look_of_mem hnd hp)).1
    unfold May at this
    exact List.mem_map.2 ⟨p.1.toNat, List.mem_range.2 (by omega), by omega⟩)
  rw [List.length_map, List.length_map, List.length_range] at this
  exact this
theorem GI.since {q : Int → Bool} {t : Nat} {lo : OfM} {mw aw : List (Int × Int)} (h : GI q t lo mw aw) (hnd : (lo.map Prod.fst).Nodup) : SinceB lo := fun p hp => (h.key p.1 p.2 (look_of_mem hnd hp)).2.1
theorem GI.zero {q : Int → Bool} {ns : List Int} (hl : ns.length ≤ 8) : GI q 0 (meetF 63 [] ns) (incF [] ns) [] where
  key n v h := by
    rw [look_meet] at h
    split at h
    · rename_i h1; cases h; exact ⟨h1.2.2, ⟨by decide, by decide⟩, .inl rfl⟩
    · cases h
  aw n := by
    rw [if_neg]; rfl
    unfold stO
    rw [look_meet]
    split <;> simp [look]
  hm n hm := by
    have := cn_inc (n := n) (ps := ns) (m := [])
    have h0 : cn [] n = 0 := rfl
    rw [h0] at this
    rw [this.2.2, look_meet]
    by_cases h : n ∈ ns
    · rw [if_pos ⟨rfl, h, hm⟩]; simp [h]
    · rw [if_neg (fun q => h q.2.1)]; simp [h, look]
  mb n := by
    have := cn_inc (n := n) (ps := ns) (m := [])
    have h0 : cn [] n = 0 := rfl
    rw [h0] at this
    omega
  pot := ⟨8, by omega, .inl rfl⟩
/-- within a tick -/
structure GM (q : Int → Bool) (t : Nat) (l2 : OfM) (out : List Int) (aw : List (Int × Int)) (j : Nat) (lc : OfM) (mw ac : List (Int × Int)) : Prop where
  told : ∀ n ∈ out.take j, q n = false → look lc n = some (2, (t : Int))
  same : ∀ n v, ¬ (n ∈ out.take j ∧ q n = false) → look l2 n = some v → look lc n = some v
  new : ∀ n, look l2 n = none → look lc n = none ∨ (look lc n = some (0, 0) ∧ May 63 n)
  hm : ∀ n, May 63 n → (0 < cn mw n ↔ look lc n ≠ none)
  mb : ∀ n, 0 ≤ cn mw n ∧ cn mw n ≤ 8 + 24 * (t : Int) + 8 * (j : Int)
  ac : ∀ n, look ac n = if n ∈ out.take j then some 1 else look aw n
structure AskI (t : Nat) (lo l2 : OfM) (out : List Int) : Prop where
  e2 : l2 = askM t out (lateF t lo)
  nd : out.Nodup
  k : ∀ k ∈ out, stO lo k = 0 ∧ look l2 k = some (1, (t : Int)) ∧ ∃ v, look lo k = some v
  len : out.length ≤ 3
theorem AskI.of {cf : Int → Int → Int} {t : Nat} {lo l2 : OfM} {ys out : List Int} (hnd : (lo.map Prod.fst).Nodup) (hS : SortedBy cf (liveK (lateF t lo)) ys) (hA : askF t (3 - (cntS (lateF t lo) 1 : Int)) (ys.take 6) (lateF t lo) [] = (l2, out)) : AskI t lo l2 out := by
  obtain ⟨h1, h2, h3, h4, h5⟩ := ask_of hnd hS hA
  refine ⟨h1, h2, fun k hk => ?_, by omega⟩
  have hk0 := h3 k hk
  have hv : ∃ v, look lo k = some v := by
    cases e : look lo k with
    | some v => exact ⟨v, rfl⟩
    | none => exact absurd hk0.2.1 (look_none_iff.1 e)
  obtain ⟨v, hv⟩ := hv
  refine ⟨(late_st k).1 hk0.2.2, ?_, v, hv⟩
  rw [h1, look_askM, if_pos hk, look_late, hv]; rfl
theorem mem_take_succ {α : Type} {l : List α} {j : Nat} {k n : α} (h : l[j]? = some k) : n ∈ l.take (j + 1) ↔ n ∈ l.take j ∨ n = k := by rw [List.take_add_one, h]; simp
theorem not_take {α : Type} {l : List α} {j : Nat} {k : α} (hn : l.Nodup) (h : l[j]? = some k) : k ∉ l.take j := fun hm => by
  obtain ⟨i, hi, he⟩ := List.getElem_of_mem hm
  rw [List.getElem_take] at he
  obtain ⟨hj, hk⟩ := List.getElem?_eq_some_iff.1 h
  rw [List.length_take] at hi
  have := (List.getElem_inj (h₀ := by omega) (h₁ := hj) hn).1 (he.trans hk.symm)
  omega
theorem GM.zero {q : Int → Bool} {t : Nat} {lo l2 : OfM} {out : List Int} {mw aw : List (Int × Int)} (h : GI q t lo mw aw) (hA : AskI t lo l2 out) : GM q t l2 out aw 0 l2 mw aw where
  told n h := by simp at h
  same n v _ h := h
  new n h := .inl h
  hm n hm := by
    rw [h.hm n hm, hA.e2, look_askM, look_late]
    cases look lo n <;> split <;> simp
  mb n := by have := h.mb n; omega
  ac n := by simp
section
variable {q : Int → Bool} {t j : Nat} {lo l2 lc : OfM} {out : List Int} {mw aw mc ac : List (Int × Int)} {k : Int}
theorem GM.at_ (h : GM q t l2 out aw j lc mc ac) (hA : AskI t lo l2 out) (hk : out[j]? = some k) : look lc k = some (1, (t : Int)) :=
  h.same k _ (fun e => not_take hA.nd hk e.1) (hA.k k (List.mem_of_getElem? hk)).2.1
theorem GM.fresh (h : GM q t l2 out aw j lc mc ac) (hI : GI q t lo mw aw) (hA : AskI t lo l2 out) (hk : out[j]? = some k) : look ac k = none ∧ k ≠ 63 ∧ 0 ≤ k ∧ k < 64 := by
  have h1 := hA.k k (List.mem_of_getElem? hk)
  obtain ⟨v, hv⟩ := h1.2.2
  have h2 := (hI.key k v hv).1
  unfold May at h2
  refine ⟨?_, h2⟩
  rw [h.ac k, if_neg (not_take hA.nd hk), hI.aw k, if_neg (fun e => e h1.1)]
theorem GM.ac_step (h : GM q t l2 out aw j lc mc ac) (hk : out[j]? = some k) (n : Int) : look (put ac k 1) n = if n ∈ out.take (j + 1) then some 1 else look aw n := by
  rw [look_put, h.ac n]
  by_cases e : n = k
  · rw [if_pos e, if_pos ((mem_take_succ hk).2 (.inr e))]
  · rw [if_neg e]
    by_cases e2 : n ∈ out.take j
    · rw [if_pos e2, if_pos ((mem_take_succ hk).2 (.inl e2))]
    · rw [if_neg e2, if_neg (fun e3 => ((mem_take_succ hk).1 e3).elim e2 e)]
theorem GM.quiet (h : GM q t l2 out aw j lc mc ac) (hk : out[j]? = some k) (hq : q k = true) : GM q t l2 out aw (j + 1) lc mc (put ac k 1) where
  told n hn hqn := by
    rcases (mem_take_succ hk).1 hn with e | e
    · exact h.told n e hqn
    · rw [e, hq] at hqn; cases hqn
  same n v hn hv := h.same n v (fun e => hn ⟨(mem_take_succ hk).2 (.inl e.1), e.2⟩) hv
  new := h.new
  hm := h.hm
  mb n := by have := h.mb n; omega
  ac := h.ac_step hk
theorem GM.heard {ps : List Int} (h : GM q t l2 out aw j lc mc ac) (hA : AskI t lo l2 out) (hk : out[j]? = some k) (hq : q k = false) (hp : ps.length ≤ 8) : GM q t l2 out aw (j + 1) (meetF 63 (put lc k (2, inO lc k)) ps) (incF mc ps) (put ac k 1) := by
  have hk1 := h.at_ hA hk
  have hin : inO lc k = (t : Int) := by unfold inO; rw [hk1]; rfl
  have hl : ∀ n, look (put lc k (2, inO lc k)) n = if n = k then some (2, (t : Int)) else look lc n := fun n => by rw [look_put, hin]
  refine ⟨fun n hn hqn => ?_, fun n v hn hv => ?_, fun n hn => ?_, fun n hm => ?_, fun n => ?_, h.ac_step hk⟩
  · have : look (put lc k (2, inO lc k)) n = some (2, (t : Int)) := by
      rw [hl]
      rcases (mem_take_succ hk).1 hn with e | e
      · split
        · rfl
        · exact h.told n e hqn
      · rw [if_pos e]
    rw [look_meet, if_neg (fun e => by rw [this] at e; cases e.1), this]
  · have hne : n ≠ k := fun e => hn ⟨(mem_take_succ hk).2 (.inr e), by rw [e]; exact hq⟩
    have := h.same n v (fun e => hn ⟨(mem_take_succ hk).2 (.inl e.1), e.2⟩) hv
    rw [look_meet, hl, if_neg hne, if_neg (fun e => by rw [this] at e; cases e.1), this]
  · have hne : n ≠ k := fun e => by have h2 := (hA.k k (List.mem_of_getElem? hk)).2.1; rw [← e, hn] at h2; cases h2
    rw [look_meet, hl, if_neg hne]
    split
    · rename_i e; exact .inr ⟨rfl, e.2.2⟩
    · exact h.new n hn
  · have hc := cn_inc (n := n) (ps := ps) (m := mc)
    have hb := h.mb n
    have hw := h.hm n hm
    rw [look_meet, hl]
    by_cases e : n = k
    · rw [if_pos e, if_neg (fun e => by cases e.1)]
      have : look lc n ≠ none := by rw [e, hk1]; simp
      have := hw.2 this
      simp; omega
    · rw [if_neg e]
      by_cases e2 : n ∈ ps
      · have := hc.2.2.2 e2
        by_cases e3 : look lc n = none
        · rw [if_pos ⟨e3, e2, hm⟩]; simp; omega
        · rw [if_neg (fun e => e3 e.1)]; simp only [ne_eq, e3, not_false_eq_true, iff_true]; omega
      · rw [if_neg (fun e => e2 e.2.1), ← hw]
        have : ¬ cn mc n < cn (incF mc ps) n := fun e => e2 (hc.2.2.1 e)
        omega
  · have hc := cn_inc (n := n) (ps := ps) (m := mc)
    have hb := h.mb n
    omega
theorem late_eq {t : Nat} {lo : OfM} (h : ∀ p ∈ lo, p.2.1 ≠ 1) : lateF t lo = lo := by
  unfold lateF
  conv => rhs; rw [← List.map_id lo]
  refine List.map_congr_left fun p hp => ?_
  unfold lateP
  rw [if_neg (fun e => h p hp e.1)]; rfl
theorem inR_live (h : GI q t lo mw aw) (hnd : (lo.map Prod.fst).Nodup) : InR (liveK lo) := fun x hx => by
  unfold liveK at hx
  obtain ⟨p, hp, rfl⟩ := List.mem_map.1 hx
  have := (h.key p.1 p.2 (look_of_mem hnd (List.mem_filter.1 hp).1)).1
  unfold May at this
  exact this.2
theorem st_some {n : Int} {v : Int × Int} (h : look lo n = some v) : stO lo n = v.1 := by unfold stO; rw [h]; rfl
theorem st_some2 {n : Int} (h : 1 ≤ stO lo n) : ∃ v, look lo n = some v ∧ stO lo n = v.1 := by
  cases e : look lo n with
  | some v => exact ⟨v, rfl, st_some e⟩
  | none => unfold stO at h; rw [e] at h; simp at h
theorem live_iff (hnd : (lo.map Prod.fst).Nodup) {n : Int} : n ∈ liveK lo ↔ ∃ v, look lo n = some v ∧ v.1 ≠ 3 := by
  unfold liveK
  rw [List.mem_map]
  constructor
  · rintro ⟨p, hp, rfl⟩
    exact ⟨p.2, look_of_mem hnd (List.mem_filter.1 hp).1, by simpa using (List.mem_filter.1 hp).2⟩
  · rintro ⟨v, hv, h3⟩
    exact ⟨(n, v), List.mem_filter.2 ⟨mem_of_look hv, by simpa using h3⟩, rfl⟩
theorem GI.tick {g : List UInt8} {ys ys0 : List Int} (hg : g.length = 32) (ht : t ≤ 700) (h : GI q t lo mw aw) (hnd : (lo.map Prod.fst).Nodup)
    (hS0 : SortedBy (cfG g) (liveK lo) ys0) (hno : (ys0.take 6).all (toldB lo) = false)
    (hS : SortedBy (cfG g) (liveK (lateF t lo)) ys) (hA : askF t (3 - (cntS (lateF t lo) 1 : Int)) (ys.take 6) (lateF t lo) [] = (l2, out))
    (hM : GM q t l2 out aw out.length lc mc ac) : GI q (t + 1) lc mc ac := by
  have hA2 := AskI.of hnd hS hA
  have hA5 := (ask_of hnd hS hA).2.2.2.2
  have hfull : out.take out.length = out := List.take_length ..
  have hl2 : ∀ n, look l2 n = if n ∈ out then (look lo n).map (fun _ => (1, (t : Int))) else (look lo n).map (lateP t) := fun n => by
    rw [hA2.e2, look_askM, look_late]
    split
    · cases look lo n <;> rfl
    · rfl
  -- what an entry comes to
  have cases_ : ∀ n v, look lo n = some v → (n ∈ out ∧ q n = false ∧ v.1 = 0 ∧ look lc n = some (2, (t : Int))) ∨ (n ∈ out ∧ q n = true ∧ v.1 = 0 ∧ look lc n = some (1, (t : Int))) ∨ (n ∉ out ∧ look lc n = some (lateP t v)) := fun n v hv => by
    by_cases ho : n ∈ out
    · have h0 := (hA2.k n ho).1
      rw [st_some hv] at h0
      cases hq : q n with
      | false => exact .inl ⟨ho, rfl, h0, hM.told n (by rw [hfull]; exact ho) hq⟩
      | true => exact .inr (.inl ⟨ho, rfl, h0, hM.same n _ (fun e => by rw [hq] at e; cases e.2) (hA2.k n ho).2.1⟩)
    · refine .inr (.inr ⟨ho, hM.same n _ (fun e => ho (by rw [hfull] at e; exact e.1)) ?_⟩)
      rw [hl2, if_neg ho, hv]; rfl
  have none_ : ∀ n, look lo n = none → look lc n = none ∨ (look lc n = some (0, 0) ∧ May 63 n) := fun n hn => hM.new n (by rw [hl2, hn]; split <;> rfl)
  have lateC : ∀ v : Int × Int, (v.1 = 1 ∧ 8 ≤ (t : Int) - v.2 ∧ lateP t v = (3, (t : Int))) ∨ (lateP t v = v ∧ ¬ (v.1 = 1 ∧ 8 ≤ (t : Int) - v.2)) := fun v => by
    unfold lateP
    by_cases e : v.1 = 1 ∧ 8 ≤ (t : Int) - v.2
    · rw [if_pos e]; exact .inl ⟨e.1, e.2, rfl⟩
    · rw [if_neg e]; exact .inr ⟨rfl, e⟩
  have mono : ∀ n, 2 ≤ stO lo n → 2 ≤ stO lc n := fun n hn => by
    obtain ⟨v, hv, he⟩ := st_some2 (lo := lo) (n := n) (by omega)
    rw [he] at hn
    rcases cases_ n v hv with c | c | c
    · omega
    · omega
    · rw [st_some c.2]
      rcases lateC v with e | e
      · rw [e.2.2]; show (2 : Int) ≤ 3; decide
      · rw [e.1]; exact hn
  refine ⟨fun n v hv => ?_, fun n => ?_, hM.hm, fun n => ?_, ?_⟩
  · cases hn : look lo n with
    | none =>
      rcases none_ n hn with e | e
      · rw [e] at hv; cases hv
      · rw [e.1] at hv; cases hv; exact ⟨e.2, ⟨by decide, by decide⟩, .inl rfl⟩
    | some u =>
      obtain ⟨k1, k2, k3⟩ := h.key n u hn
      refine ⟨k1, ?_⟩
      rcases cases_ n u hn with c | c | c
      · rw [c.2.2.2] at hv; cases hv
        exact ⟨⟨by simp, by simp; omega⟩, .inr (.inr (.inl ⟨rfl, c.2.1⟩))⟩
      · rw [c.2.2.2] at hv; cases hv
        exact ⟨⟨by simp, by simp; omega⟩, .inr (.inl ⟨rfl, c.2.1, by simp; omega⟩)⟩
      · rw [c.2] at hv; cases hv
        rcases lateC u with e | e
        · rw [e.2.2]
          refine ⟨⟨by simp, by simp; omega⟩, .inr (.inr (.inr ⟨rfl, ?_⟩))⟩
          rcases k3 with k | k | k | k
          · omega
          · exact k.2.1
          · omega
          · exact k.2
        · rw [e.1]
          refine ⟨k2, ?_⟩
          rcases k3 with k | k | k | k
          · exact .inl k
          · exact .inr (.inl ⟨k.1, k.2.1, by omega⟩)
          · exact .inr (.inr (.inl k))
          · exact .inr (.inr (.inr k))
  · rw [hM.ac n, hfull, h.aw n]
    cases hn : look lo n with
    | none =>
      have h0 : stO lo n = 0 := by unfold stO; rw [hn]; rfl
      have h1 : stO lc n = 0 := by
        unfold stO
        rcases none_ n hn with e | e
        · rw [e]; rfl
        · rw [e.1]; rfl
      have h2 : n ∉ out := fun e => by obtain ⟨v, hv⟩ := (hA2.k n e).2.2; rw [hn] at hv; cases hv
      rw [if_neg h2, h0, h1]
    | some u =>
      rw [st_some hn]
      rcases cases_ n u hn with c | c | c
      · rw [if_pos c.1, st_some c.2.2.2]; rfl
      · rw [if_pos c.1, st_some c.2.2.2]; rfl
      · rw [if_neg c.1, st_some c.2]
        rcases lateC u with e | e
        · rw [e.2.2, e.1]; rfl
        · rw [e.1]
  · have := hM.mb n
    have := hA2.len
    omega
  · obtain ⟨b, hb, hw⟩ := h.pot
    by_cases hgrow : ∃ n, ¬ 2 ≤ stO lo n ∧ 2 ≤ stO lc n
    · obtain ⟨n, h1, h2⟩ := hgrow
      have hn : 0 ≤ n ∧ n < 64 := by
        cases e : look lo n with
        | none =>
          rcases none_ n e with e | e
          · unfold stO at h2; rw [e] at h2; simp at h2
          · rw [st_some e.1] at h2; simp at h2
        | some u => have := (h.key n u e).1; unfold May at this; exact this.2
      have := wc_lt mono hn h1 h2
      exact ⟨8, by omega, .inl rfl⟩
    · have hg0 : ∀ n, 2 ≤ stO lc n → 2 ≤ stO lo n := fun n h2 => Decidable.not_not.1 fun h1 => hgrow ⟨n, h1, h2⟩
      have hwc := wc_mono mono
      -- one who waits
      have wit : ∀ n v, look lo n = some v → v.1 = 1 → v.2 + 8 ≤ (t : Int) + b → ∃ b' : Nat, t + 1 + 576 + b' ≤ 584 + 9 * wcF lc ∧ (b' = 8 ∨ (b' < 8 ∧ ∃ n v, look lc n = some v ∧ v.1 = 1 ∧ v.2 + 8 ≤ ((t + 1 : Nat) : Int) + b')) := fun n v hv h1 h8 => by
        rcases cases_ n v hv with c | c | c
        · omega
        · omega
        · rcases lateC v with e | e
          · have := hg0 n (by rw [st_some c.2, e.2.2]; show (2 : Int) ≤ 3; decide)
            rw [st_some hv] at this; omega
          · have hne : b ≠ 0 := fun e0 => e.2 ⟨h1, by omega⟩
            have hb8 : b ≤ 8 := by rcases hw with w | w <;> omega
            exact ⟨b - 1, by omega, .inr ⟨by omega, n, v, by rw [c.2, e.1], h1, by omega⟩⟩
      by_cases hone : ∃ n v, look lo n = some v ∧ v.1 = 1
      · obtain ⟨n, v, hv, h1⟩ := hone
        rcases hw with w | ⟨w, n', v', hv', h1', h8⟩
        · refine wit n v hv h1 ?_
          have := (h.key n v hv).2.2
          omega
        · exact wit n' v' hv' h1' h8
      · rcases hw with w | ⟨w, n', v', hv', h1', h8⟩
        · have hlate : lateF t lo = lo := late_eq fun p hp e => hone ⟨p.1, p.2, look_of_mem hnd hp, e⟩
          have hc0 : cntS lo 1 = 0 := by
            unfold cntS
            rw [List.length_eq_zero_iff, List.filter_eq_nil_iff]
            intro p hp e
            exact hone ⟨p.1, p.2, look_of_mem hnd hp, by simpa using e⟩
          rw [hlate] at hS hA5
          have hys : ys = ys0 := (srtG_of hg (inR_live h hnd) hS).trans (srtG_of hg (inR_live h hnd) hS0).symm
          obtain ⟨k, hk, hk2⟩ := List.all_eq_false.1 hno
          have hkl := (live_iff hnd).1 (hS0.1.mem_iff.1 (List.mem_of_mem_take hk))
          obtain ⟨u, hu, hu3⟩ := hkl
          have hku := (h.key k u hu).2.2
          have hk0 : stO lo k = 0 := by
            rw [st_some hu]
            have : ¬ u.1 = 1 := fun e => hone ⟨k, u, hu, e⟩
            have : ¬ u.1 = 2 := fun e => hk2 (by unfold toldB; rw [st_some hu]; exact decide_eq_true e)
            omega
          have hne : ∃ n, n ∈ out := by
            rcases hA5 with e | e
            · rw [hc0] at e
              match out, e with
              | [], e => simp at e
              | n :: _, _ => exact ⟨n, List.mem_cons_self ..⟩
            · exact ⟨k, e k (by rw [hys]; exact hk) hk0⟩
          obtain ⟨n, hn⟩ := hne
          obtain ⟨v, hv⟩ := (hA2.k n hn).2.2
          rcases cases_ n v hv with c | c | c
          · have := hg0 n (by rw [st_some c.2.2.2]; show (2 : Int) ≤ 2; decide)
            rw [st_some hv] at this; omega
          · exact ⟨7, by omega, .inr ⟨by omega, n, _, c.2.2.2, rfl, by simp; omega⟩⟩
          · exact absurd hn c.1
        · exact absurd ⟨n', v', hv', h1'⟩ hone
theorem GI.ends (h : GI q t lo mw aw) : t ≤ 592 := by
  obtain ⟨b, hb, _⟩ := h.pot
  have := wc_le lo
  omega
theorem filt6 {f : Int → Bool} {ys : List Int} (h : (ys.take 6).all f = true) : (ys.filter f).take 6 = ys.take 6 := by
  have h1 : (ys.take 6).filter f = ys.take 6 := List.filter_eq_self.2 (List.all_eq_true.1 h)
  have h2 : ys.filter f = ys.take 6 ++ (ys.drop 6).filter f := by
    conv => lhs; rw [← List.take_append_drop 6 ys]
    rw [List.filter_append, h1]
  rw [h2]
  by_cases h6 : 6 ≤ ys.length
  · rw [List.take_append_of_le_length (by rw [List.length_take]; omega), List.take_of_length_le (by rw [List.length_take]; omega)]
  · rw [List.drop_eq_nil_of_le (by omega), List.filter_nil, List.append_nil, List.take_take]; simp
/-- those that answer, of those that were met -/
def ansF (q : Int → Bool) (mw : List (Int × Int)) (i : Nat) : List Int := ((List.range i).map fun n : Nat => (n : Int)).filter fun n => decide (0 < cn mw n) && !q n
theorem ansF_s {i : Nat} : ansF q mw (i + 1) = if 0 < cn mw (i : Int) ∧ q (i : Int) = false then ansF q mw i ++ [(i : Int)] else ansF q mw i := by
  unfold ansF
  rw [List.range_succ, List.map_append, List.filter_append]
  by_cases h : 0 < cn mw (i : Int) ∧ q (i : Int) = false
  · rw [if_pos h]; simp [h.1, h.2]
  · rw [if_neg h]
    have : (decide (0 < cn mw (i : Int)) && !q (i : Int)) = false := by
      rw [Bool.and_eq_false_iff]
      by_cases h1 : 0 < cn mw (i : Int)
      · right; simp; exact Bool.eq_false_imp_eq_true.1 fun e => absurd ⟨h1, e⟩ h
      · left; exact decide_eq_false h1
    simp [this]
theorem ansF_len {i : Nat} : (ansF q mw i).length ≤ i := by
  have := List.length_filter_le (fun n => decide (0 < cn mw n) && !q n) ((List.range i).map fun n : Nat => (n : Int))
  rw [List.length_map, List.length_range] at this
  exact this
theorem ansF_mem {n : Int} : n ∈ ansF q mw 63 ↔ (0 ≤ n ∧ n < 63) ∧ 0 < cn mw n ∧ q n = false := by
  unfold ansF
  rw [List.mem_filter, List.mem_map]
  constructor
  · rintro ⟨⟨m, hm, rfl⟩, h⟩
    rw [List.mem_range] at hm
    simp at h
    exact ⟨by omega, h⟩
  · rintro ⟨h1, h2, h3⟩
    exact ⟨⟨n.toNat, List.mem_range.2 (by omega), by omega⟩, by simp [h2, h3]⟩
theorem ansF_nd : (ansF q mw 63).Nodup := by
  unfold ansF
  refine List.Sublist.nodup List.filter_sublist ?_
  exact List.Pairwise.map _ (fun a b h e => h (by omega)) List.nodup_range
theorem ends_law {g : List UInt8} {ys ys2 zs : List Int} (hg : g.length = 32) (h : GI q t lo mw aw) (hnd : (lo.map Prod.fst).Nodup)
    (hS : SortedBy (cfG g) (liveK lo) ys) (hov : (ys.take 6).all (toldB lo) = true) (hS2 : SortedBy (cfG g) (liveK lo) ys2) (hZ : SortedBy (cfG g) (ansF q mw 63) zs) :
    (ys2.filter (toldB lo)).take 6 = zs.take 6 ∧ (ys2.take 6).all (toldB lo) = true := by
  obtain rfl : ys2 = ys := (srtG_of hg (inR_live h hnd) hS2).trans (srtG_of hg (inR_live h hnd) hS).symm
  refine ⟨?_, hov⟩
  rw [filt6 hov]
  have hyn : ys2.Nodup := by
    rw [hS.1.nodup_iff]
    unfold liveK
    exact (List.Sublist.map _ List.filter_sublist).nodup hnd
  have hr : InR (ansF q mw 63) := fun x hx => by have := (ansF_mem.1 hx).1; omega
  have hmem : ∀ x, x ∈ ansF q mw 63 → x ∈ ys2 := fun x hx => by
    obtain ⟨h1, h2, h3⟩ := ansF_mem.1 hx
    have hm : May 63 x := ⟨by omega, by omega, by omega⟩
    have := (h.hm x hm).1 h2
    cases e : look lo x with
    | none => exact absurd e this
    | some v =>
      refine hS.1.mem_iff.2 ((live_iff hnd).2 ⟨v, e, fun e3 => ?_⟩)
      rcases (h.key x v e).2.2 with k | k | k | k
      · omega
      · omega
      · omega
      · rw [h3] at k; cases k.2
  have hz : zs = ys2.filter fun x => decide (x ∈ ansF q mw 63) := by
    refine (srtG_of hg hr hZ).trans (srtG_of hg hr ⟨?_, ?_⟩).symm
    · refine (List.perm_ext_iff_of_nodup (List.Sublist.nodup List.filter_sublist hyn) ansF_nd).2 fun x => ?_
      rw [List.mem_filter, decide_eq_true_eq]
      exact ⟨fun e => e.2, fun e => ⟨hmem x e, e⟩⟩
    · exact List.Pairwise.sublist List.filter_sublist hS.2
  rw [hz, filt6]
  refine List.all_eq_true.2 fun x hx => decide_eq_true ?_
  have ht := List.all_eq_true.1 hov x hx
  unfold toldB at ht
  have ht := of_decide_eq_true ht
  obtain ⟨v, hv, he⟩ := st_some2 (lo := lo) (n := x) (by omega)
  obtain ⟨k1, k2, k3⟩ := h.key x v hv
  have hm := (h.hm x k1).2 (by rw [hv]; simp)
  unfold May at k1
  refine ansF_mem.2 ⟨by omega, hm, ?_⟩
  rw [ht] at he
  rcases k3 with k | k | k | k
  · omega
  · omega
  · exact k.2
  · omega
end
/-! at most 8 addresses -/
def f64 (x : Int) : Int := (x.tmod 64 + 64).tmod 64
def fewF (xs : List Int) : List Int := (xs.take 8).map f64
theorem fewF_s {xs : List Int} {i : Nat} {x : Int} (h : xs[i]? = some x) (hi : i < 8) : fewF (xs.take (i + 1)) = fewF (xs.take i) ++ [f64 x] := by
  unfold fewF
  rw [List.take_take, List.take_take, Nat.min_eq_right (by omega), Nat.min_eq_right (by omega), List.take_add_one, h, List.map_append]; rfl
theorem fewF_end {xs : List Int} {len i : Nat} (h : xs.length = len) (hi : i = min len 8) : fewF (xs.take i) = fewF xs := by
  unfold fewF
  rw [List.take_take]
  congr 1
  rcases Nat.le_total len 8 with e | e
  · rw [List.take_of_length_le (by omega), List.take_of_length_le (by omega)]
  · rw [hi, Nat.min_eq_right e]; rfl
theorem fewF_len {xs : List Int} : (fewF xs).length = min xs.length 8 := by unfold fewF; rw [List.length_map, List.length_take]; omega
theorem fewF_in {xs : List Int} : InR (fewF xs) := fun x hx => by
  unfold fewF at hx
  obtain ⟨y, _, rfl⟩ := List.mem_map.1 hx
  unfold f64
  have h0 := Int.tmod_lt_of_pos (-y) (show (0 : Int) < 64 by decide)
  rw [Int.neg_tmod] at h0
  exact ⟨Int.tmod_nonneg _ (by omega), Int.tmod_lt_of_pos _ (by decide)⟩
/-! slices of slices -/
abbrev SL := Option Addr × Nat × Nat × List Int
@[reducible] def slE (z : SL) : List Value := [.slice z.1 z.2.1 z.2.2.1]
def slsA (zs : List SL) : Asn := fun h => ∀ z ∈ zs, rsl 1 z.1 z.2.1 z.2.2.1 (z.2.2.2.map e3) h
def quF (lq : List (Int × Int)) (n : Int) : Bool := decide (0 < cn lq n)
theorem tmod64 (a : Int) : -64 < a.tmod 64 ∧ a.tmod 64 < 64 := by
  have h1 := Int.tmod_lt_of_pos a (show (0 : Int) < 64 by decide)
  have := Int.tmod_lt_of_pos (-a) (show (0 : Int) < 64 by decide)
  rw [Int.neg_tmod] at this
  omega

set_option maxHeartbeats 400000 in
theorem same_spec {a b : Option Addr} {la ca lb cb : Nat} {xs ys : List Int} (hb : la ≤ 4611686018427387000) (hb2 : lb ≤ 4611686018427387000) : Spec Try.prog 17 [.slice a la ca, .slice b lb cb] [rsl 1 a la ca (xs.map e3), rsl 1 b lb cb (ys.map e3)] [] (fun v D' M' => v = .bool (decide (xs = ys)) ∧ D' = [] ∧ M' = []) := by
  refine Spec.intro (n := 26) Try.func17 rfl rfl (by decide) (Nat.le_of_ble_eq_true rfl) rfl (fun _ => qA) (fun _ => qA) ?_
  intro σ D M
  refine T.rslLen2 (rows := xs.map e3) qM (fun hl hc => ?_)
  rw [List.length_map] at hl
  refine T.rslLen2 (rows := ys.map e3) qM (fun hl2 hc2 => ?_)
  rw [List.length_map] at hl2
  refine T.seq ?_
  refine T.region ?_
  refine L.assign rfl rfl ?_
  refine L.nil ?_
  refine T.thenN ?_
  refine T.seq ?_
  refine T.seq ?_
  refine T.region ?_
  refine L.move rfl rfl ?_
  refine L.lenSl rfl Try.underlying22 rfl ?_
  refine L.move rfl rfl ?_
  refine L.lenSl rfl Try.underlying22 rfl ?_
  refine L.neI rfl rfl rfl ?_
  refine L.nil ?_
  refine T.thenN ?_
  refine T.cond rfl (fun h10 => ?_) (fun h10 => ?_)
  · try simp only [decide_eq_true_eq, decide_eq_false_iff_not, Bool.not_eq_true', Bool.not_eq_false', Bool.and_eq_true, Bool.or_eq_true] at h10
    have hne : ¬ xs = ys := fun e => by subst e; omega
    refine T.seq ?_
    refine T.region ?_
    refine L.assign rfl rfl ?_
    refine L.nil ?_
    refine T.thenN ?_
    refine T.ret ?_
    refine T.thenR ?_
    exact T.ret1 rfl rfl ⟨congrArg Value.bool (decide_eq_false hne).symm, rfl, rfl⟩ qD qF
  · try simp only [decide_eq_true_eq, decide_eq_false_iff_not, Bool.not_eq_true', Bool.not_eq_false', Bool.and_eq_true, Bool.or_eq_true] at h10
    have hll : la = lb := by omega
    refine T.skip ?_
    refine T.thenN ?_
    refine T.seq ?_
    refine T.seq ?_
    refine T.region ?_
    refine L.move rfl rfl ?_
    refine L.lenSl rfl Try.underlying22 rfl ?_
    refine L.move rfl rfl ?_
    refine L.nil ?_
    refine T.thenN ?_
    refine T.block ?_
    refine T.loop (fun K' D' M' μ => ∃ (j : Nat), (j ≤ lb ∧ xs.take j = ys.take j) ∧ K' = [(13, .int .i64 j)] ∧ D' = [] ∧ M' = [] ∧ μ = lb - j) (.cons (t := 0) rfl <| .cons (t := 1) rfl <| .cons (t := 12) rfl <| SubK.nil _) (⟨0, ⟨by omega, by simp⟩, rfl, rfl, rfl, rfl⟩) (.cons (t := 13) rfl <| SubK.nil _) qD qS ?_
    rintro K1 D1 M1 m1 ⟨j, ⟨hj, hs⟩, rfl, rfl, rfl, rfl⟩
    refine T.norm3 qA qA qA ?_
    refine T.seq ?_
    refine T.region ?_
    refine L.ltI rfl rfl rfl ?_
    refine L.nil ?_
    refine T.thenN ?_
    refine T.seq ?_
    refine T.cond rfl (fun h14 => ?_) (fun h14 => ?_)
    · try simp only [decide_eq_true_eq, decide_eq_false_iff_not, Bool.not_eq_true', Bool.not_eq_false', Bool.and_eq_true, Bool.or_eq_true] at h14
      refine T.rslAddr (rows := xs.map e3) qM (fun e => by have h0 := List.map_eq_nil_iff.1 e; rw [h0] at hl; simp at hl; omega) (fun xb xo ha => ?_)
      subst ha
      refine T.rslAddr (rows := ys.map e3) qM (fun e => by have h0 := List.map_eq_nil_iff.1 e; rw [h0] at hl2; simp at hl2; omega) (fun yb yo ha => ?_)
      subst ha
      refine T.skip ?_
      refine T.thenN ?_
      refine T.seq ?_
      refine T.block ?_
      refine T.seq ?_
      refine T.region ?_
      refine L.move rfl rfl ?_
      refine L.assign rfl rfl ?_
      refine L.nil ?_
      refine T.thenN ?_
      refine T.seq ?_
      refine T.regionQ (by kernel_rfl) (by kernel_rfl) ?_
      have hgx : xs[j]? = some (gd xs j) := gd_get (by omega)
      have hgy : ys[j]? = some (gd ys j) := gd_get (by omega)
      refine L.move rfl rfl ?_
      refine L.move rfl rfl ?_
      refine L.idxR (i := j) rfl Try.underlying22 sz3 rfl rfl qM (by first | rfl | omega | (simp; done)) qI qG ?_
      refine L.load rfl sc3 rfl qC ?_
      refine L.move rfl rfl ?_
      refine L.move rfl rfl ?_
      refine L.idxR (i := j) rfl Try.underlying22 sz3 rfl rfl qM (by first | rfl | omega | (simp; done)) qI qG ?_
      refine L.load rfl sc3 rfl qC ?_
      refine L.neI rfl rfl rfl ?_
      refine L.nilQ ?_
      refine T.thenN ?_
      refine T.cond rfl (fun h24 => ?_) (fun h24 => ?_)
      · try simp only [decide_eq_true_eq, decide_eq_false_iff_not, Bool.not_eq_true', Bool.not_eq_false', Bool.and_eq_true, Bool.or_eq_true] at h24
        have hne : ¬ xs = ys := fun e => h24 (by rw [e])
        refine T.seq ?_
        refine T.region ?_
        refine L.assign rfl rfl ?_
        refine L.nil ?_
        refine T.thenN ?_
        refine T.ret ?_
        refine T.blkR ?_
        refine T.thenR ?_
        refine T.thenR ?_
        refine T.blkR ?_
        refine T.thenR ?_
        exact T.ret1 rfl rfl ⟨congrArg Value.bool (decide_eq_false hne).symm, rfl, rfl⟩ qD qF
      · try simp only [decide_eq_true_eq, decide_eq_false_iff_not, Bool.not_eq_true', Bool.not_eq_false', Bool.and_eq_true, Bool.or_eq_true] at h24
        refine T.skip ?_
        refine T.blkN ?_
        refine T.thenN ?_
        refine T.region ?_
        refine L.addN rfl rfl rfl (by omega) ?_
        refine L.move rfl rfl ?_
        refine L.nil ?_
        refine T.thenN ?_
        exact T.back ⟨j + 1, ⟨by omega, take_same hs (by omega) (by omega) (by simpa using h24)⟩, rfl, rfl, rfl, rfl⟩ qI (.cons (t := 13) rfl <| SubK.nil _) (.cons (t := 0) rfl <| .cons (t := 1) rfl <| .cons (t := 12) rfl <| SubK.nil _) qD qD qF
    · try simp only [decide_eq_true_eq, decide_eq_false_iff_not, Bool.not_eq_true', Bool.not_eq_false', Bool.and_eq_true, Bool.or_eq_true] at h14
      obtain rfl : j = lb := by omega
      rw [List.take_of_length_le (by omega), List.take_of_length_le (by omega)] at hs
      refine T.exit ?_
      refine T.thenX ?_
      refine T.thenX ?_
      refine T.blkX ?_
      refine T.thenN ?_
      refine T.seq ?_
      refine T.region ?_
      refine L.assign rfl rfl ?_
      refine L.nil ?_
      refine T.thenN ?_
      refine T.ret ?_
      exact T.ret1 rfl rfl ⟨congrArg Value.bool (decide_eq_true hs).symm, rfl, rfl⟩ qD qF
set_option maxHeartbeats 400000 in
theorem few_spec {a : Option Addr} {len cap : Nat} {xs : List Int}  : Spec Try.prog 13 [.slice a len cap] [rsl 1 a len cap (xs.map e3)] [] (fun v D' M' => ∃ (a' : Option Addr) (n' c' : Nat), v = .slice a' n' c' ∧ (n' = min len 8) ∧ ((fewF xs).length = n') ∧ D' = [rsl 1 a' n' c' ((fewF xs).map e3)] ∧ M' = []) := by
  refine Spec.intro (n := 27) Try.func13 rfl rfl (by decide) (Nat.le_of_ble_eq_true rfl) rfl (fun _ => qA) (fun _ => qA) ?_
  intro σ D M
  refine T.rslLen2 (rows := xs.map e3) qM (fun hl hc => ?_)
  rw [List.length_map] at hl
  refine T.seq ?_
  refine T.region ?_
  refine L.assign rfl rfl ?_
  refine L.nil ?_
  refine T.thenN ?_
  refine T.seq ?_
  refine T.region ?_
  refine L.buildSlice rfl bs22 (by decide) (BP.doneE (out := []) rfl) (fun b5 => ?_)
  refine L.toOwn (len := 0) (sz := 1) (e := 3) (rows := (fewF (xs.take 0)).map e3) qP (by rfl) rfl (by simp [fewF]) ?_
  refine L.assign rfl rfl ?_
  refine L.nil ?_
  refine T.thenN ?_
  refine T.seq ?_
  refine T.seq ?_
  refine T.region ?_
  refine L.assign rfl rfl ?_
  refine L.nil ?_
  refine T.thenN ?_
  refine T.block ?_
  refine T.loop (fun K' D' M' μ => ∃ (i : Nat) (a3 : Option Addr) (c3 : Nat), (i ≤ len ∧ i ≤ 8) ∧ K' = [(4, .int .i64 i), (3, .slice a3 i c3)] ∧ D' = [] ∧ M' = [own 1 3 a3 i c3 ((fewF (xs.take i)).map e3)] ∧ μ = 8 - i) (.cons (t := 0) rfl <| SubK.nil _) (⟨0, _, _, ⟨by omega, by omega⟩, rfl, rfl, rfl, rfl⟩) (.cons (t := 4) rfl <| .cons (t := 3) rfl <| SubK.nil _) qD qS ?_
  rintro K1 D1 M1 m1 ⟨i, a3, c3, ⟨hi1, hi2⟩, rfl, rfl, rfl, rfl⟩
  refine T.norm3 qA qA qA ?_
  refine T.seq ?_
  refine T.seq ?_
  refine T.cutC (fun K' D' M' => ∃ (w : Bool), (w = true ↔ (i < len ∧ i < 8)) ∧ K' = [(13, .bool w)] ∧ D' = [] ∧ M' = []) (M0 := []) (.cons (t := 0) rfl <| .cons (t := 3) rfl <| .cons (t := 4) rfl <| SubK.nil _) qS ?_ ?_
  · skip
    refine T.region ?_
    refine L.move rfl rfl ?_
    refine L.move rfl rfl ?_
    refine L.lenSl rfl Try.underlying22 rfl ?_
    refine L.ltI rfl rfl rfl ?_
    refine L.move rfl rfl ?_
    refine L.part (t := 10) rfl (fun h1 => ?_) (fun h1 => ?_)
    · try simp only [decide_eq_true_eq, decide_eq_false_iff_not, Bool.not_eq_true', Bool.not_eq_false', Bool.and_eq_true, Bool.or_eq_true] at h1
      refine L.guardT (dj := 10) rfl rfl rfl ?_
      refine L.move rfl rfl ?_
      refine L.guardT (dj := 10) rfl rfl rfl ?_
      refine L.ltI rfl rfl rfl ?_
      refine L.pickT rfl rfl rfl ?_
      refine L.nil ?_
      refine T.thenN ?_
      exact T.toJoin ⟨_, (by simp; omega), rfl, rfl, rfl⟩ (.cons (t := 13) rfl <| SubK.nil _) (.cons (t := 0) rfl <| .cons (t := 3) rfl <| .cons (t := 4) rfl <| SubK.nil _) qD qD qF
    · try simp only [decide_eq_true_eq, decide_eq_false_iff_not, Bool.not_eq_true', Bool.not_eq_false', Bool.and_eq_true, Bool.or_eq_true] at h1
      refine L.guardF (dj := 10) (c := false) rfl rfl rfl rfl rfl (by decide) ?_
      refine L.guardF (dj := 10) (c := false) rfl rfl rfl rfl rfl (by decide) ?_
      refine L.pickF rfl rfl rfl ?_
      refine L.nil ?_
      refine T.thenN ?_
      exact T.toJoin ⟨_, (by simp; omega), rfl, rfl, rfl⟩ (.cons (t := 13) rfl <| SubK.nil _) (.cons (t := 0) rfl <| .cons (t := 3) rfl <| .cons (t := 4) rfl <| SubK.nil _) qD qD qF
  rintro _ _ _ ⟨w, hw, rfl, rfl, rfl⟩
  refine T.norm3 qA qA qA ?_
  refine T.thenN ?_
  refine T.cond rfl (fun h13 => ?_) (fun h13 => ?_)
  · try simp only [decide_eq_true_eq, decide_eq_false_iff_not, Bool.not_eq_true', Bool.not_eq_false', Bool.and_eq_true, Bool.or_eq_true] at h13
    have hwt := hw.1 h13
    refine T.skip ?_
    refine T.thenN ?_
    refine T.seq ?_
    refine T.block ?_
    refine T.region ?_
    have hgi : xs[i]? = some (gd xs i) := gd_get (by omega)
    have hot2 := tmod64 (gd xs i)
    refine L.move rfl rfl ?_
    refine L.move rfl rfl ?_
    refine L.move rfl rfl ?_
    refine L.idx (i := i) rfl Try.underlying22 sz3 rfl rfl qM (by first | rfl | omega | (simp; done)) qG (fun b19 o19 => ?_)
    refine L.load rfl sc3 rfl qC ?_
    refine L.remI rfl rfl rfl (by decide) ?_
    refine L.addN rfl rfl rfl (by omega) ?_
    refine L.remI rfl rfl rfl (by decide) ?_
    refine L.buildSlice rfl bs22 (by decide) (BP.one rfl rfl rfl <| BP.doneE (out := []) rfl) (fun b24 => ?_)
    refine L.append1 rfl Try.underlying22 el3 rfl rfl qP qM rfl qO1 qI qI (fun a25 c25 => ?_)
    refine L.assign rfl rfl ?_
    refine L.nil ?_
    refine T.blkN ?_
    refine T.thenN ?_
    refine T.region ?_
    refine L.move rfl rfl ?_
    refine L.addN rfl rfl rfl (by omega) ?_
    refine L.assign rfl rfl ?_
    refine L.nil ?_
    refine T.thenN ?_
    refine T.ownEq _ ((fewF (xs.take (i + 1))).map e3) qP (by rw [fewF_s hgi (by omega), List.map_append]; rfl) ?_
    exact T.back ⟨i + 1, _, _, ⟨by omega, by omega⟩, rfl, rfl, rfl, rfl⟩ qI (.cons (t := 4) rfl <| .cons (t := 3) rfl <| SubK.nil _) (.cons (t := 0) rfl <| SubK.nil _) qD qD qF
  · try simp only [decide_eq_true_eq, decide_eq_false_iff_not, Bool.not_eq_true', Bool.not_eq_false', Bool.and_eq_true, Bool.or_eq_true] at h13
    have hwf : ¬ (i < len ∧ i < 8) := fun e => by have := hw.2 e; rw [h13] at this; cases this
    refine T.exit ?_
    refine T.thenX ?_
    refine T.thenX ?_
    refine T.blkX ?_
    refine T.thenN ?_
    refine T.seq ?_
    have hi0 : i = min len 8 := by omega
    refine T.ownEq _ ((fewF xs).map e3) qP (by rw [fewF_end hl hi0]) ?_
    refine T.ownRsl (rows := (fewF xs).map e3) qP ?_
    refine T.region ?_
    refine L.move rfl rfl ?_
    refine L.assign rfl rfl ?_
    refine L.nil ?_
    refine T.thenN ?_
    refine T.ret ?_
    exact T.ret1 rfl rfl ⟨_, _, _, rfl, hi0, by rw [fewF_len, hl, hi0], rfl, rfl⟩ qD qF
end Cv
