/-
  The walks: whom one asks.
-/
import Derived.Test.YtjacegfanhejdaaO20
import Derived.Test.YtjacegfanhejdaaProg
import Derived.KernelRfl
set_option linter.unusedVariables false
set_option linter.unusedSimpArgs false
set_option linter.unusedSectionVars false
set_option maxRecDepth 10000
namespace Cv
open Go Go.Proofs
/-! ## whom one asks -/
def askM (now : Int) (S : List Int) (lo : OfM) : OfM := lo.map fun q => if q.1 ∈ S then (q.1, (1, now)) else q
theorem askM_keys {now : Int} {S : List Int} {lo : OfM} : (askM now S lo).map Prod.fst = lo.map Prod.fst := by
  unfold askM
  rw [List.map_map]
  exact List.map_congr_left fun q _ => by simp only [Function.comp_apply]; split <;> rfl
theorem askM_nil {now : Int} {lo : OfM} : askM now [] lo = lo := by
  unfold askM
  conv => rhs; rw [← List.map_id lo]
  exact List.map_congr_left fun q _ => by simp
theorem look_askM {now : Int} {S : List Int} {lo : OfM} {k : Int} : look (askM now S lo) k = if k ∈ S then (look lo k).map (fun _ => (1, now)) else look lo k := by
  unfold askM
  induction lo with
  | nil => simp [look]
  | cons p l ih =>
    obtain ⟨k', v⟩ := p
    simp only [List.map_cons]
    by_cases h : k' = k
    · subst h
      by_cases hs : k' ∈ S
      · simp [hs, look]
      · simp [hs, look]
    · by_cases hs : k' ∈ S
      · simp only [hs, if_true, look, if_neg h]; exact ih
      · simp only [hs, if_false, look, if_neg h]; exact ih
theorem askM_put {now : Int} {S : List Int} {lo : OfM} {k : Int} (hnd : (lo.map Prod.fst).Nodup) (hk : k ∈ lo.map Prod.fst) : put (askM now S lo) k (1, now) = askM now (S ++ [k]) lo := by
  have h1 : ∃ u, look (askM now S lo) k = some u := by
    cases h : look (askM now S lo) k with
    | some u => exact ⟨u, rfl⟩
    | none => rw [look_none_iff, askM_keys] at h; exact absurd hk h
  obtain ⟨u, hu⟩ := h1
  rw [put_map (by rw [askM_keys]; exact hnd) hu]
  unfold askM
  rw [List.map_map]
  refine List.map_congr_left fun q _ => ?_
  simp only [Function.comp_apply, List.mem_append, List.mem_singleton]
  by_cases hs : q.1 ∈ S
  · simp only [hs, if_true, true_or]
    split
    · rename_i e; rw [e]
    · rfl
  · simp only [hs, if_false, false_or]
    split
    · rename_i e; rw [e]
    · rfl
theorem st_askM {now : Int} {S : List Int} {lo : OfM} {k : Int} (h : k ∉ S) : stO (askM now S lo) k = stO lo k := by unfold stO; rw [look_askM, if_neg h]
theorem askF_gen (now room : Int) {lo : OfM} (hnd : (lo.map Prod.fst).Nodup) : ∀ (l out : List Int), (∀ k ∈ l, k ∈ lo.map Prod.fst) → (out ++ l).Nodup →
    ∃ S, S.Sublist l ∧ askF now room l (askM now out lo) out = (askM now (out ++ S) lo, out ++ S) ∧ (∀ k ∈ S, stO lo k = 0) ∧ (((out ++ S).length : Int) ≤ max room out.length) ∧ (room ≤ ((out ++ S).length : Int) ∨ ∀ k ∈ l, stO lo k = 0 → k ∈ S)
  | [], out, _, _ => ⟨[], .slnil, by simp [askF], (fun k h => by cases h), by simp; omega, .inr (fun k h => by cases h)⟩
  | n :: ns, out, hl, hn => by
    have hno : n ∉ out := fun h => by
      have := List.nodup_append.1 hn
      exact this.2.2 n h n (List.mem_cons_self ..) rfl
    unfold askF
    rw [st_askM hno]
    by_cases h : (out.length : Int) < room ∧ stO lo n = 0
    · rw [if_pos h, askM_put hnd (hl n (List.mem_cons_self ..))]
      obtain ⟨S, h1, h2, h3, h4, h5⟩ := askF_gen now room hnd ns (out ++ [n]) (fun k hk => hl k (List.mem_cons_of_mem _ hk)) (by rw [List.append_assoc]; exact hn)
      refine ⟨n :: S, h1.cons_cons n, by rw [h2, List.append_assoc]; rfl, fun k hk => ?_, ?_, ?_⟩
      · rcases List.mem_cons.1 hk with e | e
        · rw [e]; exact h.2
        · exact h3 k e
      · simp only [List.length_append, List.length_cons, List.length_nil] at h4 ⊢; omega
      · rcases h5 with h5 | h5
        · left; simp only [List.length_append, List.length_cons, List.length_nil] at h5 ⊢; omega
        · right
          intro k hk h0
          rcases List.mem_cons.1 hk with e | e
          · rw [e]; exact List.mem_cons_self ..
          · exact List.mem_cons_of_mem _ (h5 k e h0)
    · rw [if_neg h]
      obtain ⟨S, h1, h2, h3, h4, h5⟩ := askF_gen now room hnd ns out (fun k hk => hl k (List.mem_cons_of_mem _ hk)) (by
        have := List.nodup_append.1 hn
        exact List.nodup_append.2 ⟨this.1, (List.nodup_cons.1 this.2.1).2, fun a ha b hb => this.2.2 a ha b (List.mem_cons_of_mem _ hb)⟩)
      refine ⟨S, h1.cons n, h2, h3, h4, ?_⟩
      rcases h5 with h5 | h5
      · exact .inl h5
      · by_cases hr : (out.length : Int) < room
        · right
          intro k hk h0
          rcases List.mem_cons.1 hk with e | e
          · exact absurd ⟨hr, by rw [← e]; exact h0⟩ h
          · exact h5 k e h0
        · left; simp only [List.length_append]; omega
/-- Ask, as a whole -/
theorem ask_of {cf : Int → Int → Int} {now : Int} {lo l2 : OfM} {ys out : List Int} (hnd : (lo.map Prod.fst).Nodup) (hS : SortedBy cf (liveK (lateF now lo)) ys) (hA : askF now (3 - (cntS (lateF now lo) 1 : Int)) (ys.take 6) (lateF now lo) [] = (l2, out)) :
    l2 = askM now out (lateF now lo) ∧ out.Nodup ∧ (∀ k ∈ out, k ∈ ys.take 6 ∧ k ∈ lo.map Prod.fst ∧ stO (lateF now lo) k = 0) ∧ ((out.length : Int) ≤ max (3 - (cntS (lateF now lo) 1 : Int)) 0) ∧ (3 - (cntS (lateF now lo) 1 : Int) ≤ out.length ∨ ∀ k ∈ ys.take 6, stO (lateF now lo) k = 0 → k ∈ out) := by
  have hnd2 : ((lateF now lo).map Prod.fst).Nodup := by rw [lateF_keys]; exact hnd
  have hlk : ∀ k ∈ ys, k ∈ (lateF now lo).map Prod.fst := fun k hk => by
    have := hS.1.mem_iff.1 hk
    unfold liveK at this
    obtain ⟨q, hq, rfl⟩ := List.mem_map.1 this
    exact List.mem_map_of_mem (List.mem_filter.1 hq).1
  have hyn : ys.Nodup := by
    rw [hS.1.nodup_iff]
    unfold liveK
    exact (List.Sublist.map _ List.filter_sublist).nodup hnd2
  obtain ⟨S, h1, h2, h3, h4, h5⟩ := askF_gen now (3 - (cntS (lateF now lo) 1 : Int)) hnd2 (ys.take 6) [] (fun k hk => hlk k (List.mem_of_mem_take hk)) (by simpa using (List.take_sublist 6 ys).nodup hyn)
  rw [askM_nil, hA] at h2
  simp only [List.nil_append] at h2 h4 h5
  obtain ⟨rfl, rfl⟩ := Prod.mk.inj h2
  exact ⟨rfl, h1.nodup ((List.take_sublist 6 ys).nodup hyn), fun k hk => ⟨h1.subset hk, by rw [← lateF_keys (now := now)]; exact hlk k (List.mem_of_mem_take (h1.subset hk)), h3 k hk⟩, by simpa using h4, h5⟩
theorem cnt_askM {now : Int} {S : List Int} {lo : OfM} (hnd : (lo.map Prod.fst).Nodup) (hS : S.Nodup) (hk : ∀ k ∈ S, k ∈ lo.map Prod.fst ∧ stO lo k = 0) : cntS (askM now S lo) 1 = cntS lo 1 + S.length ∧ cntS (askM now S lo) 3 = cntS lo 3 := by
  have fresh : ∀ q ∈ lo, q.1 ∈ S → q.2.1 = 0 := fun q hq hs => by
    have := (hk q.1 hs).2
    unfold stO at this
    rw [look_of_mem hnd hq] at this
    exact this
  have hlen : (lo.filter fun q => decide (q.1 ∈ S)).length = S.length := by
    have : ((lo.filter fun q => decide (q.1 ∈ S)).map Prod.fst).Perm S := by
      refine (List.perm_ext_iff_of_nodup ((List.Sublist.map _ List.filter_sublist).nodup hnd) hS).2 fun k => ?_
      rw [List.mem_map]
      constructor
      · rintro ⟨q, hq, rfl⟩; simpa using (List.mem_filter.1 hq).2
      · intro h
        obtain ⟨q, hq, rfl⟩ := List.mem_map.1 (hk k h).1
        exact ⟨q, List.mem_filter.2 ⟨hq, by simpa using h⟩, rfl⟩
    have := this.length_eq
    rwa [List.length_map] at this
  rw [← hlen]
  have key : ∀ l : OfM, (∀ q ∈ l, q.1 ∈ S → q.2.1 = 0) → cntS (askM now S l) 1 = cntS l 1 + (l.filter fun q => decide (q.1 ∈ S)).length ∧ cntS (askM now S l) 3 = cntS l 3 := by
    intro l
    induction l with
    | nil => intro _; exact ⟨rfl, rfl⟩
    | cons q l ih =>
      intro h
      obtain ⟨i1, i2⟩ := ih (fun p hp => h p (List.mem_cons_of_mem _ hp))
      unfold cntS askM at *
      simp only [List.map_cons, List.filter_cons]
      by_cases hs : q.1 ∈ S
      · have h0 := h q (List.mem_cons_self ..) hs
        simp only [hs, if_true, h0, decide_true, List.length_cons]
        simp only [show ((0 : Int) = 1) = False from by simp, show ((0 : Int) = 3) = False from by simp, show ((1 : Int) = 3) = False from by simp, decide_false, Bool.false_eq_true, if_false]
        exact ⟨by rw [i1]; omega, i2⟩
      · simp only [hs, if_false, decide_false, Bool.false_eq_true]
        constructor
        · split
          · rw [List.length_cons, List.length_cons, i1]; omega
          · exact i1
        · split
          · rw [List.length_cons, List.length_cons, i2]
          · exact i2
  exact key lo fresh
/-- those that were asked at s -/
theorem late_same {now s : Int} {lo : OfM} (h : ∀ p ∈ lo, p.2.1 = 1 → p.2.2 = s) (hn : now - s < 8) : lateF now lo = lo := by
  unfold lateF
  conv => rhs; rw [← List.map_id lo]
  refine List.map_congr_left fun q hq => ?_
  unfold lateP
  rw [if_neg (fun e => by have := h q hq e.1; omega)]
  rfl
theorem cnt_cons {q : Int × Int × Int} {l : OfM} {st : Int} : cntS (q :: l) st = (if q.2.1 = st then 1 else 0) + cntS l st := by
  unfold cntS
  rw [List.filter_cons]
  by_cases h : q.2.1 = st
  · simp [h]; omega
  · simp [h]
theorem late_all {now s : Int} {lo : OfM} (h : ∀ p ∈ lo, p.2.1 = 1 → p.2.2 = s) (hn : 8 ≤ now - s) : cntS (lateF now lo) 1 = 0 ∧ cntS (lateF now lo) 3 = cntS lo 3 + cntS lo 1 := by
  induction lo with
  | nil => exact ⟨rfl, rfl⟩
  | cons q l ih =>
    obtain ⟨i1, i2⟩ := ih (fun p hp => h p (List.mem_cons_of_mem _ hp))
    have e : lateF now (q :: l) = (q.1, lateP now q.2) :: lateF now l := rfl
    rw [e, cnt_cons, cnt_cons, cnt_cons, cnt_cons, i1, i2]
    by_cases h1 : q.2.1 = 1
    · have := h q (List.mem_cons_self ..) h1
      have e2 : lateP now q.2 = (3, now) := by unfold lateP; rw [if_pos ⟨h1, by omega⟩]
      rw [e2, h1]
      simp; omega
    · have e2 : lateP now q.2 = q.2 := by unfold lateP; rw [if_neg (fun e => h1 e.1)]
      rw [e2, if_neg h1]
      exact ⟨rfl, by simp only [Nat.zero_add]; omega⟩
theorem nodup_le {α : Type} [DecidableEq α] : ∀ {l m : List α}, l.Nodup → (∀ x ∈ l, x ∈ m) → l.length ≤ m.length
  | [], _, _, _ => Nat.zero_le _
  | x :: l, m, h, hs => by
    have hx := hs x (List.mem_cons_self ..)
    have := nodup_le (m := m.erase x) (List.nodup_cons.1 h).2 (fun y hy => by
      have hne : y ≠ x := fun e => (List.nodup_cons.1 h).1 (e ▸ hy)
      exact (List.mem_erase_of_ne hne).2 (hs y (List.mem_cons_of_mem _ hy)))
    rw [List.length_erase_of_mem hx] at this
    have := List.length_pos_of_mem hx
    simp only [List.length_cons]; omega
/-! ## silent ones -/
structure SI (n t : Nat) (lo : OfM) (lw : List (Int × Int)) : Prop where
  nd : (lo.map Prod.fst).Nodup
  len : lo.length = n
  st : ∀ p ∈ lo, (p.2.1 = 0 ∨ p.2.1 = 1 ∨ p.2.1 = 3) ∧ 0 ≤ p.2.2 ∧ p.2.2 ≤ 1000000
  at1 : ∀ p ∈ lo, p.2.1 = 1 → p.2.2 = 8 * (((t - 1) / 8 : Nat) : Int)
  c3 : cntS lo 3 = if t = 0 then 0 else min (3 * ((t - 1) / 8)) n
  c1 : cntS lo 1 = if t = 0 then 0 else min 3 (n - 3 * ((t - 1) / 8))
  wk : ∀ k, look lw k = if k ∈ lo.map Prod.fst ∧ stO lo k ≠ 0 then some 1 else none
theorem cnt_sum {lo : OfM} (h : ∀ p ∈ lo, p.2.1 = 0 ∨ p.2.1 = 1 ∨ p.2.1 = 3) : cntS lo 0 + cntS lo 1 + cntS lo 3 = lo.length := by
  induction lo with
  | nil => rfl
  | cons q l ih =>
    have i := ih (fun p hp => h p (List.mem_cons_of_mem _ hp))
    rw [cnt_cons, cnt_cons, cnt_cons, List.length_cons]
    rcases h q (List.mem_cons_self ..) with e | e | e <;> rw [e] <;> simp <;> omega
theorem live_len {lo : OfM} (h : ∀ p ∈ lo, p.2.1 = 0 ∨ p.2.1 = 1 ∨ p.2.1 = 3) : (liveK lo).length = cntS lo 0 + cntS lo 1 := by
  unfold liveK
  rw [List.length_map]
  induction lo with
  | nil => rfl
  | cons q l ih =>
    have i := ih (fun p hp => h p (List.mem_cons_of_mem _ hp))
    rw [cnt_cons, cnt_cons, List.filter_cons]
    rcases h q (List.mem_cons_self ..) with e | e | e
    · rw [if_pos (show decide (q.2.1 ≠ 3) = true by rw [e]; decide), List.length_cons, i, e]; simp; omega
    · rw [if_pos (show decide (q.2.1 ≠ 3) = true by rw [e]; decide), List.length_cons, i, e]; simp; omega
    · rw [if_neg (show ¬ decide (q.2.1 ≠ 3) = true by rw [e]; decide), i, e]; simp
theorem cnt_pos {lo : OfM} (hnd : (lo.map Prod.fst).Nodup) {k : Int} (hk : k ∈ lo.map Prod.fst) {s : Int} (h : stO lo k = s) : 0 < cntS lo s := by
  obtain ⟨q, hq, rfl⟩ := List.mem_map.1 hk
  unfold stO at h
  rw [look_of_mem hnd hq] at h
  exact List.length_pos_of_mem (List.mem_filter.2 ⟨hq, by simpa using h⟩)
theorem late_st {now : Int} {lo : OfM} (k : Int) : stO (lateF now lo) k = 0 ↔ stO lo k = 0 := by
  unfold stO lateF
  induction lo with
  | nil => exact Iff.rfl
  | cons q l ih =>
    obtain ⟨k', v⟩ := q
    simp only [List.map_cons, look]
    by_cases e : k' = k
    · simp only [if_pos e, Option.getD_some]
      unfold lateP
      split
      · rename_i h; simp [h.1]
      · rfl
    · simp only [if_neg e]; exact ih
theorem SI.zero {n : Nat} {lo : OfM} (hnd : (lo.map Prod.fst).Nodup) (hl : lo.length = n) (h0 : ∀ p ∈ lo, p.2 = (0, 0)) : SI n 0 lo [] where
  nd := hnd
  len := hl
  st p hp := by rw [h0 p hp]; exact ⟨.inl rfl, by decide, by decide⟩
  at1 p hp h1 := by rw [h0 p hp] at h1; cases h1
  c3 := by
    rw [if_pos rfl]
    unfold cntS
    rw [List.length_eq_zero_iff, List.filter_eq_nil_iff]
    intro p hp; rw [h0 p hp]; decide
  c1 := by
    rw [if_pos rfl]
    unfold cntS
    rw [List.length_eq_zero_iff, List.filter_eq_nil_iff]
    intro p hp; rw [h0 p hp]; decide
  wk k := by
    rw [if_neg]
    · rfl
    · rintro ⟨h1, h2⟩
      obtain ⟨q, hq, rfl⟩ := List.mem_map.1 h1
      apply h2
      unfold stO
      rw [look_of_mem hnd hq, h0 q hq]; rfl
theorem SI.ask {cf : Int → Int → Int} {n t : Nat} {lo l2 : OfM} {lw lw2 : List (Int × Int)} {ys out : List Int} (h : SI n t lo lw) (ht : t ≤ 1000) (hS : SortedBy cf (liveK (lateF t lo)) ys) (hA : askF t (3 - (cntS (lateF t lo) 1 : Int)) (ys.take 6) (lateF t lo) [] = (l2, out)) :
    out.Nodup ∧ (∀ k ∈ out, look lw k = none) ∧ ((∀ k, look lw2 k = if k ∈ out then some 1 else look lw k) → SI n (t + 1) l2 lw2) := by
  obtain ⟨hl2, hon, hok, hle, hor⟩ := ask_of h.nd hS hA
  have hstL : ∀ p ∈ lateF t lo, (p.2.1 = 0 ∨ p.2.1 = 1 ∨ p.2.1 = 3) ∧ 0 ≤ p.2.2 ∧ p.2.2 ≤ 1000000 := by
    intro p hp
    unfold lateF at hp
    obtain ⟨q, hq, rfl⟩ := List.mem_map.1 hp
    have := h.st q hq
    unfold lateP
    split
    · exact ⟨.inr (.inr rfl), by simp, by simp; omega⟩
    · exact this
  have hndL : ((lateF t lo).map Prod.fst).Nodup := by rw [lateF_keys]; exact h.nd
  have hsum := cnt_sum (fun p hp => (hstL p hp).1)
  have hll : (lateF t lo).length = n := by unfold lateF; rw [List.length_map]; exact h.len
  have hlive := live_len (fun p hp => (hstL p hp).1)
  have hyl := hS.1.length_eq
  have hcnt := cnt_askM (now := (t : Int)) hndL hon (fun k hk => ⟨by rw [lateF_keys]; exact (hok k hk).2.1, (hok k hk).2.2⟩)
  -- how many are asked
  have hsub : ∀ k ∈ out, k ∈ ys.take 6 := fun k hk => (hok k hk).1
  have hnum : cntS (lateF t lo) 3 = (if t % 8 = 0 then min (3 * (t / 8)) n else cntS lo 3) ∧ cntS (lateF t lo) 1 + out.length = min 3 (n - 3 * (t / 8)) ∧ (t % 8 ≠ 0 → out = [] ∧ lateF t lo = lo) := by
    by_cases h8 : t % 8 = 0
    · rw [if_pos h8]
      have hc : cntS (lateF t lo) 1 = 0 ∧ cntS (lateF t lo) 3 = min (3 * (t / 8)) n := by
        rcases Nat.eq_zero_or_pos t with e | e
        · subst e
          have c3 := h.c3; have c1 := h.c1
          rw [if_pos rfl] at c3 c1
          have hs : lateF ((0 : Nat) : Int) lo = lo := late_same (s := 0) (fun p hp h1 => by have := h.at1 p hp h1; simpa using this) (by omega)
          rw [hs, c1, c3]
          exact ⟨rfl, by simp⟩
        · have c3 := h.c3; have c1 := h.c1
          rw [if_neg (by omega)] at c3 c1
          have h2 := late_all (now := (t : Int)) (fun p hp h1 => h.at1 p hp h1) (by omega)
          refine ⟨h2.1, ?_⟩
          rw [h2.2, c3, c1]
          have e3 : (t - 1) / 8 + 1 = t / 8 := by omega
          omega
      have hfl : out.length = min 3 (n - 3 * (t / 8)) := by
        have hfresh : ∀ k ∈ ys.take 6, stO (lateF t lo) k = 0 := by
          intro k hk
          have hm := hS.1.mem_iff.1 (List.mem_of_mem_take hk)
          unfold liveK at hm
          obtain ⟨q, hq, rfl⟩ := List.mem_map.1 hm
          obtain ⟨hq1, hq2⟩ := List.mem_filter.1 hq
          have hne3 : q.2.1 ≠ 3 := by simpa using hq2
          have hsq : stO (lateF t lo) q.1 = q.2.1 := by unfold stO; rw [look_of_mem hndL hq1]; rfl
          rcases (hstL q hq1).1 with e | e | e
          · rw [hsq, e]
          · have := cnt_pos hndL (List.mem_map_of_mem hq1) (hsq.trans e); omega
          · exact absurd e hne3
        have hyn : ys.Nodup := by
          rw [hS.1.nodup_iff]
          unfold liveK
          exact (List.Sublist.map _ List.filter_sublist).nodup hndL
        have htl : (ys.take 6).length = min 6 ys.length := List.length_take
        have hlel : out.length ≤ (ys.take 6).length := nodup_le hon hsub
        rcases hor with hor | hor
        · omega
        · have : (ys.take 6).length ≤ out.length := nodup_le ((List.take_sublist 6 ys).nodup hyn) (fun k hk => hor k hk (hfresh k hk))
          omega
      exact ⟨hc.2, by omega, fun e => absurd h8 e⟩
    · rw [if_neg h8]
      have c3 := h.c3; have c1 := h.c1
      rw [if_neg (by omega)] at c3 c1
      have e3 : (t - 1) / 8 = t / 8 := by omega
      rw [e3] at c3 c1
      have hs : lateF t lo = lo := late_same (s := 8 * (((t - 1) / 8 : Nat) : Int)) h.at1 (by omega)
      rw [hs] at hsum hok hle hll ⊢
      have hout : out = [] := by
        rcases Nat.lt_or_ge (n - 3 * (t / 8)) 3 with g | g
        · cases out with
          | nil => rfl
          | cons k _ =>
            have hk := hok k (List.mem_cons_self ..)
            have := cnt_pos h.nd hk.2.1 hk.2.2
            omega
        · have : out.length = 0 := by omega
          exact List.length_eq_zero_iff.1 this
      subst hout
      exact ⟨rfl, by simp only [List.length_nil]; omega, fun _ => ⟨rfl, rfl⟩⟩
  have hsto : ∀ k, k ∉ out → stO l2 k = stO (lateF t lo) k := fun k hk => by rw [hl2]; exact st_askM hk
  have hkeys : l2.map Prod.fst = lo.map Prod.fst := by rw [hl2, askM_keys, lateF_keys]
  refine ⟨hon, fun k hk => ?_, fun hw => ⟨by rw [hkeys]; exact h.nd, by rw [hl2]; unfold askM; rw [List.length_map]; exact hll, fun p hp => ?_, fun p hp h1 => ?_, ?_, ?_, fun k => ?_⟩⟩
  · rw [h.wk k, if_neg]
    rintro ⟨_, h2⟩
    exact h2 ((late_st k).1 (hok k hk).2.2)
  · rw [hl2] at hp
    unfold askM at hp
    obtain ⟨q, hq, rfl⟩ := List.mem_map.1 hp
    split
    · exact ⟨.inr (.inl rfl), by simp, by simp; omega⟩
    · exact hstL q hq
  · rw [show t + 1 - 1 = t from rfl]
    rw [hl2] at hp
    unfold askM at hp
    obtain ⟨q, hq, rfl⟩ := List.mem_map.1 hp
    split at h1
    · rename_i hm
      rw [if_pos hm]
      by_cases h8 : t % 8 = 0
      · show (t : Int) = _; omega
      · rw [(hnum.2.2 h8).1] at hm; cases hm
    · rename_i hm
      rw [if_neg hm]
      by_cases h8 : t % 8 = 0
      · exfalso
        have hsq : stO (lateF t lo) q.1 = 1 := by unfold stO; rw [look_of_mem hndL hq]; exact h1
        have hp1 := cnt_pos hndL (List.mem_map_of_mem hq) hsq
        rcases Nat.eq_zero_or_pos t with e | e
        · subst e
          have c1 := h.c1
          rw [if_pos rfl] at c1
          have hs : lateF ((0 : Nat) : Int) lo = lo := late_same (s := 0) (fun p hp h1 => by have := h.at1 p hp h1; simpa using this) (by omega)
          rw [hs, c1] at hp1; omega
        · have h2 := late_all (now := (t : Int)) (fun p hp h1 => h.at1 p hp h1) (by omega)
          omega
      · rw [(hnum.2.2 h8).2] at hq
        have := h.at1 q hq h1
        rw [this]; congr 2; omega
  · rw [hl2, hcnt.2, if_neg (by omega), hnum.1, show t + 1 - 1 = t from rfl]
    split
    · rfl
    · have c3 := h.c3
      rw [if_neg (by omega)] at c3
      rw [c3]; congr 2; omega
  · rw [hl2, hcnt.1, if_neg (by omega), hnum.2.1, show t + 1 - 1 = t from rfl]
  · rw [hw k, hkeys]
    by_cases hk : k ∈ out
    · rw [if_pos hk, if_pos]
      refine ⟨(hok k hk).2.1, ?_⟩
      rw [hl2]
      unfold stO
      rw [look_askM, if_pos hk]
      cases e : look (lateF t lo) k with
      | none => rw [look_none_iff, lateF_keys] at e; exact absurd (hok k hk).2.1 e
      | some v => simp
    · rw [if_neg hk, h.wk k, hsto k hk]
      have := late_st (now := (t : Int)) (lo := lo) k
      by_cases g : k ∈ lo.map Prod.fst ∧ stO lo k ≠ 0
      · rw [if_pos g, if_pos ⟨g.1, fun e => g.2 (this.1 e)⟩]
      · rw [if_neg g, if_neg (fun e => g ⟨e.1, fun e2 => e.2 (this.2 e2)⟩)]


end Cv
