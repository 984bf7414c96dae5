/-
  The walks of the laws over bucket.
-/
import Derived.Test.YtlbhafbggelgkaaY19
import Derived.Test.YtlbhafbggelgkaaRH19
import Derived.Test.YtlbhafbggelgkaaProg
import Derived.KernelRfl
set_option maxRecDepth 10000
set_option linter.unusedSimpArgs false
set_option linter.unusedVariables false
namespace Cv
open Go Go.Proofs
/-! ## the laws' plain parts -/
def F0 : Int → Row := fun _ => zR19
theorem F0_ok {o : Int} : ∀ k, ROk o k (F0 k) := fun _ => zR_ok
theorem heardF_ok {o n : Int} {F : Int → Row} (h : ∀ k, ROk o k (F k)) : ∀ k, ROk o k (heardF o F n k) := fun k => by
  unfold heardF
  by_cases hb : Bad o n
  · rw [if_pos hb]; exact h k
  · rw [if_neg hb]
    unfold updR
    by_cases e : k = rowF o n
    · rw [if_pos e, e]; exact hRow_ok (h _) (by unfold Bad at hb; unfold VA; omega) rfl
    · rw [if_neg e]; exact h k
theorem goneF_ok {o n : Int} {F : Int → Row} (h : ∀ k, ROk o k (F k)) : ∀ k, ROk o k (goneF o F n k) := fun k => by
  unfold goneF
  by_cases hb : Bad o n
  · rw [if_pos hb]; exact h k
  · rw [if_neg hb]
    unfold updR
    by_cases e : k = rowF o n
    · rw [if_pos e, e]; exact gRow_ok (h _)
    · rw [if_neg e]; exact h k
theorem knows_all {o n : Int} {F : Int → Row} (h : ∀ k, ROk o k (F k)) : knowsB o F n = decide (n ∈ allF o F) := by
  unfold knowsB
  by_cases hm : n ∈ (F (rowF o n)).1
  · have hv := ((h _).1 n hm).1
    have hb : ¬ Bad o n := by unfold Bad; unfold VA at hv; omega
    rw [decide_eq_true hb, decide_eq_true hm, decide_eq_true ((allF_mem h).2 hm)]; rfl
  · rw [decide_eq_false hm, decide_eq_false (fun e => hm ((allF_mem h).1 e)), Bool.and_false]
theorem ixF_of_mem {v : Int} {xs : List Int} (h : v ∈ xs) : 0 ≤ ixF v xs := by
  have e : decide (0 ≤ ixF v xs) = true := by rw [ixF_ge]; simpa using h
  simpa using e
theorem ixF_of_not {v : Int} {xs : List Int} (h : v ∉ xs) : ¬ 0 ≤ ixF v xs := by
  have e : decide (0 ≤ ixF v xs) = false := by rw [ixF_ge]; simpa using h
  simpa using e
theorem len_of_mem {xs ys : List Int} (h1 : xs.Nodup) (h2 : ys.Nodup) (h : ∀ x, x ∈ xs ↔ x ∈ ys) : xs.length = ys.length := ((List.perm_ext_iff_of_nodup h1 h2).2 h).length_eq
/-- who is known behind Heard -/
theorem heardF_mem {o n m : Int} {F : Int → Row} (h : ∀ k, ROk o k (F k)) : m ∈ allF o (heardF o F n) ↔ m ∈ allF o F ∨ (m = n ∧ ¬ Bad o n ∧ (F (rowF o n)).1.length < 4) := by
  rw [allF_mem (heardF_ok h), allF_mem h]
  unfold heardF
  by_cases hb : Bad o n
  · rw [if_pos hb]; simp [hb]
  · rw [if_neg hb]
    unfold updR
    by_cases e : rowF o m = rowF o n
    · rw [if_pos e, e]
      unfold hRow
      by_cases c1 : 0 ≤ ixF n (F (rowF o n)).1
      · have hn := ixF_mem c1
        rw [if_pos c1, ixF_erase c1]
        simp only [List.mem_append, List.mem_singleton]
        by_cases emn : m = n
        · subst emn; simp [hn]
        · rw [List.mem_erase_of_ne emn]; simp [emn]
      · rw [if_neg c1]
        have hn := ixF_not c1
        by_cases c2 : ((F (rowF o n)).1.length : Int) < 4
        · rw [if_pos c2]
          simp only [List.mem_append, List.mem_singleton]
          have c2' : (F (rowF o n)).1.length < 4 := by omega
          simp [hb, c2']
        · rw [if_neg c2]
          have c2' : ¬ (F (rowF o n)).1.length < 4 := by omega
          by_cases c3 : (F (rowF o n)).2 < 0
          · rw [if_pos c3]; simp [c2']
          · rw [if_neg c3]; simp [c2']
    · rw [if_neg e]
      have emn : m ≠ n := fun q => e (by rw [q])
      simp [emn]
/-! awake -/
def F1 : Int → Row := heardF 0 F0 5
theorem nb5 : ¬ Bad 0 5 := by unfold Bad; omega
theorem ok1 : ∀ k, ROk 0 k (F1 k) := heardF_ok F0_ok
theorem all1 {m : Int} : m ∈ allF 0 F1 ↔ m = 5 := by
  rw [F1, heardF_mem F0_ok, allF_mem F0_ok]
  simp [F0, zR19, nb5]
theorem aw1 : heardA 0 F0 5 = (0, false) := by rw [heardA, if_neg nb5]; rfl
theorem aw2 : knowsB 0 F1 5 = true := by rw [knows_all ok1]; exact decide_eq_true (all1.2 rfl)
theorem aw3 : knowsB 0 F1 0 = false := by rw [knows_all ok1]; exact decide_eq_false (fun e => by have := all1.1 e; omega)
theorem aw4 : (allF 0 F1).length = 1 := len_of_mem (ys := [5]) allF_nodup (by simp) (fun x => by rw [all1]; simp)
theorem aw5 : goneB 0 F1 5 = true := by
  have h5 : (5 : Int) ∈ (F1 (rowF 0 5)).1 := (allF_mem ok1).1 (all1.2 rfl)
  rw [goneB, decide_eq_true nb5, decide_eq_true (ixF_of_mem h5)]; rfl
theorem goneF_mem {o n m : Int} {F : Int → Row} (h : ∀ k, ROk o k (F k)) (hn : n ∈ (F (rowF o n)).1) : m ∈ allF o (goneF o F n) ↔ (m ∈ allF o F ∧ m ≠ n) ∨ (0 ≤ (F (rowF o n)).2 ∧ m = (F (rowF o n)).2) := by
  rw [allF_mem (goneF_ok h), allF_mem h]
  obtain ⟨r1, r2, r3, r4⟩ := h (rowF o n)
  have hv := (r1 n hn).1
  have hb : ¬ Bad o n := by unfold Bad; unfold VA at hv; omega
  rw [goneF, if_neg hb]
  unfold updR
  have c1 := ixF_of_mem hn
  by_cases e : rowF o m = rowF o n
  · rw [if_pos e, e]
    unfold gRow
    rw [if_neg (by omega), ixF_erase c1]
    by_cases c2 : 0 ≤ (F (rowF o n)).2
    · rw [if_pos c2]
      simp only [List.mem_append, List.mem_singleton, r2.mem_erase_iff, c2, true_and]
      constructor
      · rintro (⟨a, b⟩ | a)
        · exact .inl ⟨b, a⟩
        · exact .inr a
      · rintro (⟨a, b⟩ | a)
        · exact .inl ⟨b, a⟩
        · exact .inr a
    · rw [if_neg c2]
      simp only [r2.mem_erase_iff, c2, false_and, or_false]
      exact And.comm
  · rw [if_neg e]
    have emn : m ≠ n := fun q => e (by rw [q])
    constructor
    · exact fun q => .inl ⟨q, emn⟩
    · rintro (q | ⟨q1, q2⟩)
      · exact q.1
      · rcases r4 with q | ⟨_, q3, _⟩
        · omega
        · rw [← q2] at q3; exact absurd q3 e
theorem aw6 : (allF 0 (goneF 0 F1 5)).length = 0 := by
  have h5 : (5 : Int) ∈ (F1 (rowF 0 5)).1 := (allF_mem ok1).1 (all1.2 rfl)
  have h2 : (F1 (rowF 0 5)).2 < 0 := by
    rcases (ok1 (rowF 0 5)).2.2.2 with q | ⟨_, _, _, q⟩
    · omega
    · have : ∀ x ∈ (F1 (rowF 0 5)).1, x = 5 := fun x hx => by
        have hr := ((ok1 _).1 x hx).2
        exact all1.1 ((allF_mem ok1).2 (by rw [hr]; exact hx))
      match hl : (F1 (rowF 0 5)).1, q, (ok1 (rowF 0 5)).2.1 with
      | [a, b, c, d], _, hn =>
        rw [hl] at this
        have e1 := this a (by simp)
        have e2 := this b (by simp)
        subst e1; rw [e2] at hn; simp at hn
  refine List.length_eq_zero_iff.2 (List.eq_nil_iff_forall_not_mem.2 fun m hm => ?_)
  rcases (goneF_mem ok1 h5).1 hm with ⟨a, b⟩ | ⟨a, _⟩
  · exact b (all1.1 a)
  · omega
theorem len_le_of_sub : ∀ {xs ys : List Int}, xs.Nodup → (∀ x ∈ xs, x ∈ ys) → xs.length ≤ ys.length
  | [], _, _, _ => by simp
  | x :: xs, ys, hn, h => by
    rw [List.nodup_cons] at hn
    have hx := h x (by simp)
    have := len_le_of_sub (ys := ys.erase x) hn.2 (fun y hy => (List.mem_erase_of_ne (fun e => hn.1 (by rw [← e]; exact hy))).2 (h y (by simp [hy])))
    rw [List.length_erase_of_mem hx] at this
    have := List.length_pos_of_mem hx
    simp; omega
/-! BucketFull: how many of each row -/
def cntR (o : Int) (xs : List Int) (k : Int) : Nat := (xs.filter (fun n => decide (rowF o n = k))).length
def RowsI (o : Int) (xs : List Int) (lm : List (Int × Int)) : Prop := (∀ k, (look lm k).getD 0 = (cntR o xs k : Int))
theorem cntR_le {o k : Int} {F : Int → Row} (h : ∀ k, ROk o k (F k)) {j : Nat} : cntR o ((allF o F).take j) k ≤ 4 := by
  have hn : (((allF o F).take j).filter (fun n => decide (rowF o n = k))).Nodup := (allF_nodup.sublist (List.take_sublist _ _)).filter _
  have hs : ((allF o F).take j).filter (fun n => decide (rowF o n = k)) ⊆ (F k).1 := fun n hm => by
    simp only [List.mem_filter, decide_eq_true_eq] at hm
    have := (allF_mem h).1 (List.mem_of_mem_take hm.1)
    rwa [hm.2] at this
  exact Nat.le_trans (len_le_of_sub hn (fun x hx => hs hx)) (h k).2.2.1
theorem RowsI.step {o x : Int} {xs : List Int} {lm : List (Int × Int)} {j : Nat} (h : RowsI o (xs.take j) lm) (hx : xs[j]? = some x) : RowsI o (xs.take (j + 1)) (put lm (rowF o x) ((look lm (rowF o x)).getD 0 + 1)) := fun k => by
  rw [look_put]
  have e : xs.take (j + 1) = xs.take j ++ [x] := by rw [List.take_add_one, hx]; rfl
  unfold RowsI at h
  rw [e]
  unfold cntR at h ⊢
  rw [List.filter_append, List.length_append]
  by_cases hk : k = rowF o x
  · subst hk
    rw [if_pos rfl]
    simp only [Option.getD_some, h]
    simp
  · rw [if_neg hk]
    have : decide (rowF o x = k) = false := decide_eq_false (fun q => hk q.symm)
    simp [this, h]
theorem RowsI.le {o : Int} {F : Int → Row} (hok : ∀ k, ROk o k (F k)) {j : Nat} {lm : List (Int × Int)} (h : RowsI o ((allF o F).take j) lm) (hn : (lm.map Prod.fst).Nodup) {k v : Int} (hkv : (k, v) ∈ lm) : ¬ 4 < v := by
  have h1 := h k
  rw [look_of_mem hn hkv] at h1
  have h2 := cntR_le (k := k) hok (j := j)
  simp only [Option.getD_some] at h1
  omega
theorem RowsI.val {o k : Int} {xs : List Int} {lm : List (Int × Int)} (h : RowsI o xs lm) : 0 ≤ (look lm k).getD 0 ∧ (look lm k).getD 0 ≤ xs.length := by
  rw [h k]
  have : cntR o xs k ≤ xs.length := List.length_filter_le _ _
  omega
theorem full_elem {o : Int} {F : Int → Row} (h : ∀ k, ROk o k (F k)) {j : Nat} {x : Int} (hx : (allF o F)[j]? = some x) : x ≠ o ∧ 0 ≤ x ∧ x ≤ 63 ∧ knowsB o F x = true := by
  have hm := List.mem_of_getElem? hx
  have hm2 := (allF_mem h).1 hm
  have hv := ((h _).1 x hm2).1
  unfold VA at hv
  exact ⟨hv.2.2, hv.1, by omega, by rw [knows_all h]; exact decide_eq_true hm⟩
theorem own_bounds (a : Int) : 0 ≤ (a.tmod 64 + 64).tmod 64 ∧ (a.tmod 64 + 64).tmod 64 < 64 := by
  have h1 := Int.tmod_lt_of_pos a (show (0 : Int) < 64 by decide)
  have h2 : -64 < a.tmod 64 := by
    have := Int.tmod_lt_of_pos (-a) (show (0 : Int) < 64 by decide)
    rw [Int.neg_tmod] at this
    omega
  have h3 : 0 ≤ a.tmod 64 + 64 := by omega
  rw [Int.tmod_eq_emod_of_nonneg h3]
  omega
/-! BucketNext -/
theorem next_step {o n : Int} {F : Int → Row} (h : ∀ k, ROk o k (F k)) (hk : (heardA o F n).2 = true) :
    knowsB o (heardF o F n) (heardA o F n).1 = true ∧ knowsB o (heardF o F n) n = false ∧ goneB o (heardF o F n) (heardA o F n).1 = true ∧
    knowsB o (goneF o (heardF o F n) (heardA o F n).1) n = true ∧ knowsB o (goneF o (heardF o F n) (heardA o F n).1) (heardA o F n).1 = false ∧
    (allF o (goneF o (heardF o F n) (heardA o F n).1)).length = (allF o (heardF o F n)).length := by
  have hH := heardF_ok (n := n) h
  unfold heardA at hk ⊢
  by_cases hb : Bad o n
  · rw [if_pos hb] at hk; cases hk
  rw [if_neg hb] at hk ⊢
  unfold hAsk at hk ⊢
  by_cases c1 : 0 ≤ ixF n (F (rowF o n)).1
  · rw [if_pos c1] at hk; cases hk
  rw [if_neg c1] at hk ⊢
  by_cases c2 : ((F (rowF o n)).1.length : Int) < 4
  · rw [if_pos c2] at hk; cases hk
  rw [if_neg c2] at hk ⊢
  have c3 : (F (rowF o n)).2 < 0 := by
    by_cases c3 : (F (rowF o n)).2 < 0
    · exact c3
    · rw [if_neg c3] at hk; cases hk
  rw [if_pos c3]
  simp only
  have hask : gd (F (rowF o n)).1 0 ∈ (F (rowF o n)).1 := List.mem_of_getElem? (gd_get (l := (F (rowF o n)).1) (i := 0) (by omega))
  generalize gd (F (rowF o n)).1 0 = ask at hask ⊢
  have hnm := ixF_not c1
  have hra := ((h _).1 ask hask).2
  have hF' : heardF o F n (rowF o n) = ((F (rowF o n)).1, n) := by
    rw [heardF, if_neg hb, updR, if_pos rfl, hRow, if_neg c1, if_neg c2, if_pos c3]
  have hask' : ask ∈ (heardF o F n (rowF o ask)).1 := by rw [hra, hF']; exact hask
  have hmA : ask ∈ allF o (heardF o F n) := (allF_mem hH).2 hask'
  have hnA : n ∉ allF o (heardF o F n) := fun e => by rw [allF_mem hH, hF'] at e; exact hnm e
  have hne : n ≠ ask := fun e => hnA (by rw [← e] at hmA; exact hmA)
  have hva := ((h _).1 ask hask).1
  have hba : ¬ Bad o ask := by unfold Bad; unfold VA at hva; omega
  have hgm := fun m => goneF_mem (m := m) hH hask'
  rw [hra, hF'] at hgm
  have hn0 : 0 ≤ n := by unfold Bad at hb; omega
  have hG := goneF_ok (n := ask) hH
  refine ⟨by rw [knows_all hH]; exact decide_eq_true hmA, by rw [knows_all hH]; exact decide_eq_false hnA, by rw [goneB, decide_eq_true hba, decide_eq_true (ixF_of_mem hask')]; rfl, ?_, ?_, ?_⟩
  · rw [knows_all hG]; exact decide_eq_true ((hgm n).2 (.inr ⟨hn0, rfl⟩))
  · rw [knows_all hG]; exact decide_eq_false (fun e => by rcases (hgm ask).1 e with ⟨_, q⟩ | ⟨_, q⟩; exact q rfl; exact hne q.symm)
  · have hp : (allF o (goneF o (heardF o F n) ask)).length = ((allF o (heardF o F n)).erase ask ++ [n]).length := len_of_mem allF_nodup (by
      rw [List.nodup_append]
      refine ⟨allF_nodup.erase _, by simp, fun a ha b hb => ?_⟩
      simp at hb; subst hb
      rintro rfl
      exact hnA (List.mem_of_mem_erase ha)) (fun m => by
        rw [hgm m, List.mem_append, allF_nodup.mem_erase_iff, List.mem_singleton]
        simp only [hn0, true_and]
        constructor
        · rintro (⟨a, b⟩ | a)
          · exact .inl ⟨b, a⟩
          · exact .inr a
        · rintro (⟨a, b⟩ | a)
          · exact .inl ⟨b, a⟩
          · exact .inr a)
    rw [hp, List.length_append, List.length_erase_of_mem hmA]
    have := List.length_pos_of_mem hmA
    simp; omega
theorem gone_own {o : Int} {F : Int → Row} : goneB o F o = false := by
  rw [goneB, decide_eq_false (fun e => e (.inl rfl))]; rfl
/-! BucketStay -/
def stF (o : Int) (F : Int → Row) (n : Int) : Int → Row := if (heardA o F n).2 = true then heardF o (heardF o F n) (heardA o F n).1 else heardF o F n
def StI (o : Int) (F : Int → Row) (lm : List (Int × Int)) : Prop := (∀ k, ROk o k (F k)) ∧ ∀ m, m ∈ lm.map Prod.fst ↔ m ∈ allF o F
theorem stI_0 {o : Int} : StI o F0 [] := ⟨F0_ok, fun m => by rw [allF_mem F0_ok]; simp [F0, zR19]⟩
theorem stF_ok {o n : Int} {F : Int → Row} (h : ∀ k, ROk o k (F k)) : ∀ k, ROk o k (stF o F n k) := by
  unfold stF; split
  · exact heardF_ok (heardF_ok h)
  · exact heardF_ok h
theorem stF_mem {o n m : Int} {F : Int → Row} (h : ∀ k, ROk o k (F k)) : m ∈ allF o (stF o F n) ↔ m ∈ allF o F ∨ (m = n ∧ n ∈ allF o (stF o F n)) := by
  have key : ∀ m, m ∈ allF o (stF o F n) ↔ m ∈ allF o (heardF o F n) := by
    intro m
    unfold stF
    by_cases hk : (heardA o F n).2 = true
    · rw [if_pos hk, heardF_mem (heardF_ok h)]
      constructor
      · rintro (q | ⟨q1, q2, q3⟩)
        · exact q
        · subst q1
          have := (next_step h hk).1
          rw [knows_all (heardF_ok h)] at this
          simpa using this
      · exact fun q => .inl q
    · rw [if_neg hk]
  rw [key, key, heardF_mem h, heardF_mem h]
  constructor
  · rintro (q | ⟨q1, q2, q3⟩)
    · exact .inl q
    · subst q1; exact .inr ⟨rfl, .inr ⟨rfl, q2, q3⟩⟩
  · rintro (q | ⟨q1, q2 | q2⟩)
    · exact .inl q
    · subst q1; exact .inl q2
    · subst q1; exact .inr q2
theorem stI_yes {o n v : Int} {F : Int → Row} {lm : List (Int × Int)} (h : StI o F lm) (hk : knowsB o (stF o F n) n = true) : StI o (stF o F n) (put lm n v) := ⟨stF_ok h.1, fun m => by
  rw [knows_all (stF_ok h.1)] at hk
  have hn : n ∈ allF o (stF o F n) := by simpa using hk
  rw [stF_mem h.1, keys_put, ← h.2]
  by_cases hm : n ∈ lm.map Prod.fst
  · rw [if_pos hm]
    constructor
    · exact .inl
    · rintro (q | ⟨q, _⟩)
      · exact q
      · rw [q]; exact hm
  · rw [if_neg hm, List.mem_append, List.mem_singleton]
    simp [hn]⟩
theorem stI_no {o n : Int} {F : Int → Row} {lm : List (Int × Int)} (h : StI o F lm) (hk : knowsB o (stF o F n) n = false) : StI o (stF o F n) lm := ⟨stF_ok h.1, fun m => by
  rw [knows_all (stF_ok h.1)] at hk
  have hn : n ∉ allF o (stF o F n) := by simpa using hk
  rw [stF_mem h.1, ← h.2]
  simp [hn]⟩
theorem stI_knows {o k v : Int} {F : Int → Row} {lm : List (Int × Int)} (h : StI o F lm) (hkv : (k, v) ∈ lm) : knowsB o F k = true := by
  rw [knows_all h.1]; exact decide_eq_true ((h.2 k).1 (List.mem_map_of_mem (f := Prod.fst) hkv))
theorem stI_len {o : Int} {F : Int → Row} {lm : List (Int × Int)} (h : StI o F lm) (hn : (lm.map Prod.fst).Nodup) : (allF o F).length = lm.length := by
  have := len_of_mem (xs := lm.map Prod.fst) hn allF_nodup h.2
  rw [← this, List.length_map]
theorem idF_eq2 {n : Int} : oidF 4 [kb n] = idF n := by unfold idF; rfl
theorem tmod64 (a : Int) : -64 < a.tmod 64 ∧ a.tmod 64 < 64 := by
  have h1 := Int.tmod_lt_of_pos a (show (0 : Int) < 64 by decide)
  have := Int.tmod_lt_of_pos (-a) (show (0 : Int) < 64 by decide)
  rw [Int.neg_tmod] at this
  omega
def VI (lm : List (Int × Int)) (B : Int) : Prop := ∀ k v, (k, v) ∈ lm → 0 ≤ v ∧ v ≤ B
theorem VI.get {lm : List (Int × Int)} {B k : Int} (h : VI lm B) (hB : 0 ≤ B) : 0 ≤ (look lm k).getD 0 ∧ (look lm k).getD 0 ≤ B := by
  cases e : look lm k with
  | none => simpa using hB
  | some v => exact h k v (mem_of_look e)
theorem VI.put {lm : List (Int × Int)} {B n : Int} (h : VI lm B) (hB : 0 ≤ B) : VI (put lm n ((look lm n).getD 0 + 1)) (B + 1) := fun k v hm => by
  have hg := h.get (k := n) hB
  by_cases e : look lm n = none
  · rw [put_none e] at hm
    rcases List.mem_append.1 hm with q | q
    · have := h k v q; omega
    · simp [e] at q; omega
  · obtain ⟨u, hu⟩ := Option.ne_none_iff_exists'.1 e
    obtain ⟨j, h1, h2, h3, h4⟩ := lookI_some (i := 0) hu
    rw [h3] at hm
    rcases List.mem_or_eq_of_mem_set hm with q | q
    · have := h k v q; omega
    · injection q with q1 q2
      omega
theorem VI.up {lm : List (Int × Int)} {B : Int} (h : VI lm B) : VI lm (B + 1) := fun k v hm => by have := h k v hm; omega

set_option maxHeartbeats 400000 in
theorem obytes_spec {l : List UInt8} (hl : l.length = 32) : Spec Try.prog 20 [.agg (l.map Y).toArray] [] [] (fun v D' M' => v = S l ∧ D' = [] ∧ M' = []) := by
  refine Spec.intro (n := 5) Try.func20 rfl rfl (by decide) (Nat.le_of_ble_eq_true rfl) rfl (fun _ => qA) (fun _ => qA) ?_
  intro σ D M
  refine T.seq ?_
  refine T.region ?_
  refine L.box rfl rfl rfl (fun b1 => ?_)
  refine L.assign rfl rfl ?_
  refine L.nil ?_
  refine T.toOwn (len := 32) qP (rows := l.map yr) (sz := 1) (yr_flat l) (by simp [hl]) (by simp) ?_
  refine T.ownRsl qP ?_
  refine T.thenN ?_
  refine T.seq ?_
  refine T.region ?_
  refine L.sliceArr rfl Try.underlying34 sz5 rfl Bd.no Bd.no qI qI ?_
  refine L.known (t := 3) (u := .slice (some ⟨b1, 0, none⟩) 32 32) rfl (by first | rfl | simp [cutA, Addr.add]) ?_
  refine L.bytesStr rfl Try.underlying69 Try.underlying5 Try.underlying9 rfl qM ?_
  refine L.assign rfl rfl ?_
  refine L.nil ?_
  refine T.thenN ?_
  refine T.ret ?_
  exact T.ret1 rfl rfl ⟨rfl, rfl, rfl⟩ qD qF
set_option maxHeartbeats 400000 in
theorem rid_spec {n : Int}  : Spec Try.prog 26 [.int .i64 n] [] [] (fun v D' M' => v = S (idF n) ∧ D' = [] ∧ M' = []) := by
  refine Spec.intro (n := 9) Try.func26 rfl rfl (by decide) (Nat.le_of_ble_eq_true rfl) rfl (fun _ => qA) (fun _ => qA) ?_
  intro σ D M
  refine T.seq ?_
  refine T.region ?_
  refine L.assign rfl rfl ?_
  refine L.nil ?_
  refine T.thenN ?_
  refine T.seq ?_
  refine T.region ?_
  refine L.move rfl rfl ?_
  refine L.remI rfl rfl rfl (by decide) ?_
  refine L.convIY rfl Try.underlying3 Try.underlying5 rfl ?_
  rw [kb_tmod]
  refine L.buildSlice rfl bs69 (by decide) (BP.one rfl rfl rfl <| BP.doneE (out := []) rfl) (fun b6 => ?_)
  refine L.toOwn (len := 1) qP (rows := [kb n].map yr) (sz := 1) (by rfl) rfl (by simp) ?_
  refine L.ownRsl qP ?_
  refine L.bytesStr rfl Try.underlying69 Try.underlying5 Try.underlying9 rfl qM ?_
  refine L.callF rfl (evs.cons rfl <| evs.cons rfl <| evs.nil) qD qS (r2of_spec (by simp)) (by rintro u D1 M1 ⟨rfl, rfl, rfl⟩; exact ⟨rfl, _, qA, qF⟩) ?_
  rw [idF_eq2]
  refine L.assign rfl rfl ?_
  refine L.nil ?_
  refine T.thenN ?_
  refine T.ret ?_
  exact T.ret1 rfl rfl ⟨rfl, rfl, rfl⟩ qD qF
set_option maxHeartbeats 400000 in
theorem awake_spec   : Spec Try.prog 8 [] [] [] (fun v D' M' => v = .bool true ∧ D' = [] ∧ M' = []) := by
  refine Spec.intro (n := 45) Try.func8 rfl rfl (by decide) (Nat.le_of_ble_eq_true rfl) rfl (fun _ => qA) (fun _ => qA) ?_
  intro σ D M
  refine T.seq ?_
  refine T.region ?_
  refine L.assign rfl rfl ?_
  refine L.nil ?_
  refine T.thenN ?_
  refine T.seq ?_
  refine T.region ?_
  refine L.call rfl (evs.cons rfl <| evs.nil) qD qS (bnew_spec) ?_
  rintro _ _ _ ⟨b, rfl, rfl, rfl⟩
  refine L.norm qA qA ?_
  refine L.assign rfl rfl ?_
  refine L.nil ?_
  refine T.eqv qP (show tblA b 0 (fun _ => zR19) = tblA b 0 (F0) from rfl) ?_
  refine T.thenN ?_
  refine T.seq ?_
  refine T.seq ?_
  refine T.region ?_
  refine L.move rfl rfl ?_
  refine L.eqlPtr rfl Try.underlying24 rfl rfl ?_
  refine L.nil ?_
  refine T.thenN ?_
  refine T.condF rfl rfl ?_
  refine T.skip ?_
  refine T.thenN ?_
  refine T.seq ?_
  refine T.region ?_
  refine L.move rfl rfl ?_
  refine L.call rfl (evs.cons rfl <| evs.cons rfl <| evs.nil) qD qS (heard_spec) ?_
  rintro _ _ _ ⟨rfl, rfl, rfl⟩
  refine L.norm qA qA ?_
  refine L.move rfl rfl ?_
  refine L.extract rfl rfl rfl ?_
  refine L.extract rfl rfl rfl ?_
  refine L.assign rfl rfl ?_
  refine L.assign rfl rfl ?_
  refine L.nil ?_
  refine T.eqv qP (show tblA b 0 (heardF 0 F0 5) = tblA b 0 (F1) from rfl) ?_
  refine T.thenN ?_
  refine T.seq ?_
  refine T.region ?_
  refine L.move rfl rfl ?_
  refine L.notB rfl rfl ?_
  refine L.move rfl rfl ?_
  refine L.known (t := 14) rfl (show _ = Value.bool true from congrArg Value.bool (by rw [aw1]; rfl)) ?_
  refine L.guardT (dj := 14) rfl rfl rfl ?_
  refine L.move rfl rfl ?_
  refine L.guardT (dj := 14) rfl rfl rfl ?_
  refine L.call rfl (evs.cons rfl <| evs.cons rfl <| evs.nil) qD qS (knows_spec) ?_
  rintro _ _ _ ⟨rfl, rfl, rfl⟩
  refine L.norm qA qA ?_
  refine L.pickT rfl rfl rfl ?_
  refine L.move rfl rfl ?_
  refine L.known (t := 18) rfl (show _ = Value.bool true from congrArg Value.bool (aw2)) ?_
  refine L.guardT (dj := 18) rfl rfl rfl ?_
  refine L.move rfl rfl ?_
  refine L.guardT (dj := 18) rfl rfl rfl ?_
  refine L.call rfl (evs.cons rfl <| evs.cons rfl <| evs.nil) qD qS (knows_spec) ?_
  rintro _ _ _ ⟨rfl, rfl, rfl⟩
  refine L.norm qA qA ?_
  refine L.guardT (dj := 18) rfl rfl rfl ?_
  refine L.notB rfl rfl ?_
  refine L.pickT rfl rfl rfl ?_
  refine L.move rfl rfl ?_
  refine L.known (t := 23) rfl (show _ = Value.bool true from congrArg Value.bool (by rw [aw3]; rfl)) ?_
  refine L.guardT (dj := 23) rfl rfl rfl ?_
  refine L.move rfl rfl ?_
  refine L.guardT (dj := 23) rfl rfl rfl ?_
  refine L.call rfl (evs.cons rfl <| evs.nil) qD qS (all_spec) ?_
  rintro _ _ _ ⟨al, ac, rfl, rfl, rfl⟩
  refine L.norm qA qA ?_
  refine L.guardT (dj := 23) rfl rfl rfl ?_
  refine L.lenSl rfl Try.underlying22 rfl ?_
  refine L.guardT (dj := 23) rfl rfl rfl ?_
  refine L.eqI rfl rfl rfl ?_
  refine L.pickT rfl rfl rfl ?_
  refine L.move rfl rfl ?_
  refine L.known (t := 29) rfl (show _ = Value.bool true from congrArg Value.bool (decide_eq_true (by rw [aw4]; rfl))) ?_
  refine L.guardT (dj := 29) rfl rfl rfl ?_
  refine L.move rfl rfl ?_
  refine L.guardT (dj := 29) rfl rfl rfl ?_
  refine L.call rfl (evs.cons rfl <| evs.cons rfl <| evs.nil) qD qS (gone_spec) ?_
  rintro _ _ _ ⟨rfl, rfl, rfl⟩
  refine L.norm qA qA ?_
  refine L.pickT rfl rfl rfl ?_
  refine L.move rfl rfl ?_
  refine L.known (t := 33) rfl (show _ = Value.bool true from congrArg Value.bool (aw5)) ?_
  refine L.guardT (dj := 33) rfl rfl rfl ?_
  refine L.move rfl rfl ?_
  refine L.guardT (dj := 33) rfl rfl rfl ?_
  refine L.call rfl (evs.cons rfl <| evs.nil) qD qS (all_spec) ?_
  rintro _ _ _ ⟨al, ac, rfl, rfl, rfl⟩
  refine L.norm qA qA ?_
  refine L.guardT (dj := 33) rfl rfl rfl ?_
  refine L.lenSl rfl Try.underlying22 rfl ?_
  refine L.guardT (dj := 33) rfl rfl rfl ?_
  refine L.eqI rfl rfl rfl ?_
  refine L.pickT rfl rfl rfl ?_
  refine L.move rfl rfl ?_
  refine L.known (t := 39) rfl (show _ = Value.bool true from congrArg Value.bool (decide_eq_true (by rw [aw6]; rfl))) ?_
  refine L.guardT (dj := 39) rfl rfl rfl ?_
  refine L.call rfl (evs.cons rfl <| evs.nil) qD qS (bid_spec) ?_
  rintro _ _ _ ⟨rfl, rfl, rfl⟩
  refine L.norm qA qA ?_
  have h32 := idF_len 7
  refine L.guardT (dj := 39) rfl rfl rfl ?_
  refine L.call rfl (evs.cons rfl <| evs.nil) qD qS (obytes_spec (l := idF 7) h32) ?_
  rintro _ _ _ ⟨rfl, rfl, rfl⟩
  refine L.norm qA qA ?_
  refine L.guardT (dj := 39) rfl rfl rfl ?_
  refine L.call rfl (evs.cons rfl <| evs.nil) qD qS (rid_spec) ?_
  rintro _ _ _ ⟨rfl, rfl, rfl⟩
  refine L.norm qA qA ?_
  refine L.guardT (dj := 39) rfl rfl rfl ?_
  refine L.eqS rfl rfl rfl ?_
  refine L.pickT rfl rfl rfl ?_
  refine L.assign rfl rfl ?_
  refine L.nil ?_
  refine T.thenN ?_
  refine T.ret ?_
  exact T.ret1 rfl rfl ⟨congrArg Value.bool (decide_eq_true rfl), rfl, rfl⟩ qD qF
set_option maxHeartbeats 1000000 in
theorem full_law (a0 : Int) (a : Option Addr) (len cap : Nat) (xs : List Int) (hx : xs.length = len) (hg : ∀ x ∈ xs, g3 x) (hb : len ≤ 4611686018427387904)  : Spec Try.prog 4 [.int .i64 a0, .slice a len cap] [rsl 1 a len cap (xs.map e3)] [] (fun v D' M' => v = .bool true ∧ D' = [] ∧ M' = []) := by
  refine Spec.intro (n := 78) Try.func4 rfl rfl (by decide) (Nat.le_of_ble_eq_true rfl) rfl (fun _ => qA) (fun _ => qA) ?_
  intro σ D M
  refine T.seq ?_
  refine T.region ?_
  refine L.assign rfl rfl ?_
  refine L.nil ?_
  refine T.thenN ?_
  refine T.seq ?_
  refine T.seq ?_
  refine T.region ?_
  refine L.call rfl (evs.nil) qD qS (awake_spec) ?_
  rintro _ _ _ ⟨rfl, rfl, rfl⟩
  refine L.norm qA qA ?_
  refine L.notB rfl rfl ?_
  refine L.nil ?_
  refine T.thenN ?_
  refine T.condF rfl rfl ?_
  refine T.skip ?_
  refine T.thenN ?_
  refine T.seq ?_
  have hot := tmod64 a0
  refine T.region ?_
  refine L.move rfl rfl ?_
  refine L.remI rfl rfl rfl (by decide) ?_
  refine L.addN rfl rfl rfl (by omega) ?_
  refine L.remI rfl rfl rfl (by decide) ?_
  refine L.assign rfl rfl ?_
  refine L.nil ?_
  obtain ⟨ow, how, ho1, ho2⟩ : ∃ m : Int, m = (a0.tmod 64 + 64).tmod 64 ∧ 0 ≤ m ∧ m < 64 := ⟨_, rfl, own_bounds a0⟩
  rw [← how]
  refine T.thenN ?_
  refine T.seq ?_
  refine T.region ?_
  refine L.move rfl rfl ?_
  refine L.call rfl (evs.cons rfl <| evs.nil) qD qS (bnew_spec) ?_
  rintro _ _ _ ⟨b, rfl, rfl, rfl⟩
  refine L.norm qA qA ?_
  refine L.assign rfl rfl ?_
  refine L.nil ?_
  refine T.eqv qP (show tblA b ow (fun _ => zR19) = tblA b ow (F0) from rfl) ?_
  refine T.thenN ?_
  refine T.seq ?_
  refine T.seq ?_
  refine T.region ?_
  refine L.assign rfl rfl ?_
  refine L.nil ?_
  refine T.thenN ?_
  refine T.block ?_
  refine T.loop (fun K' D' M' μ => ∃ (i : Nat) (F : Int → Row), (i ≤ len ∧ i ≤ 200) ∧ K' = [(6, .int .i64 i)] ∧ D' = [] ∧ M' = [tblA b ow F] ∧ μ = 200 - i) (.cons (t := 0) rfl <| .cons (t := 1) rfl <| .cons (t := 5) rfl <| SubK.nil _) (⟨0, _, by omega, rfl, rfl, rfl, rfl⟩) (.cons (t := 6) rfl <| SubK.nil _) qD qS ?_
  rintro K1 D1 M1 m1 ⟨i, F, ⟨hi1, hi2⟩, rfl, rfl, rfl, rfl⟩
  refine T.norm3 qA qA qA ?_
  refine T.seq ?_
  refine T.seq ?_
  refine T.cutC (fun K' D' M' => ∃ (w : Bool), (w = true ↔ (i < len ∧ i < 200)) ∧ K' = [(27, .bool w)] ∧ D' = [] ∧ M' = []) (M0 := []) (.cons (t := 0) rfl <| .cons (t := 1) rfl <| .cons (t := 5) rfl <| .cons (t := 6) rfl <| SubK.nil _) qS ?_ ?_
  · skip
    refine T.region ?_
    refine L.move rfl rfl ?_
    refine L.move rfl rfl ?_
    refine L.lenSl rfl Try.underlying22 rfl ?_
    refine L.ltI rfl rfl rfl ?_
    refine L.move rfl rfl ?_
    refine L.part (t := 24) rfl (fun h1 => ?_) (fun h1 => ?_)
    · try simp only [decide_eq_true_eq, decide_eq_false_iff_not, Bool.not_eq_true', Bool.not_eq_false', Bool.and_eq_true, Bool.or_eq_true] at h1
      refine L.guardT (dj := 24) rfl rfl rfl ?_
      refine L.move rfl rfl ?_
      refine L.guardT (dj := 24) rfl rfl rfl ?_
      refine L.ltI rfl rfl rfl ?_
      refine L.pickT rfl rfl rfl ?_
      refine L.nil ?_
      refine T.thenN ?_
      exact T.toJoin ⟨_, (by simp; omega), rfl, rfl, rfl⟩ (.cons (t := 27) rfl <| SubK.nil _) (.cons (t := 0) rfl <| .cons (t := 1) rfl <| .cons (t := 5) rfl <| .cons (t := 6) rfl <| SubK.nil _) qD qD qF
    · try simp only [decide_eq_true_eq, decide_eq_false_iff_not, Bool.not_eq_true', Bool.not_eq_false', Bool.and_eq_true, Bool.or_eq_true] at h1
      refine L.guardF (dj := 24) (c := false) rfl rfl rfl rfl rfl (by decide) ?_
      refine L.guardF (dj := 24) (c := false) rfl rfl rfl rfl rfl (by decide) ?_
      refine L.pickF rfl rfl rfl ?_
      refine L.nil ?_
      refine T.thenN ?_
      exact T.toJoin ⟨_, (by simp; omega), rfl, rfl, rfl⟩ (.cons (t := 27) rfl <| SubK.nil _) (.cons (t := 0) rfl <| .cons (t := 1) rfl <| .cons (t := 5) rfl <| .cons (t := 6) rfl <| SubK.nil _) qD qD qF
  rintro _ _ _ ⟨w, hw, rfl, rfl, rfl⟩
  refine T.norm3 qA qA qA ?_
  refine T.thenN ?_
  refine T.cond rfl (fun h27 => ?_) (fun h27 => ?_)
  · try simp only [decide_eq_true_eq, decide_eq_false_iff_not, Bool.not_eq_true', Bool.not_eq_false', Bool.and_eq_true, Bool.or_eq_true] at h27
    have hwt := hw.1 h27
    refine T.skip ?_
    refine T.thenN ?_
    refine T.seq ?_
    refine T.block ?_
    refine T.region ?_
    have hgi : xs[i]? = some (gd xs i) := gd_get (by omega)
    refine L.move rfl rfl ?_
    refine L.move rfl rfl ?_
    refine L.move rfl rfl ?_
    refine L.idx (i := i) rfl Try.underlying22 sz3 rfl rfl qM (by first | rfl | omega | (simp; done)) qG (fun b33 o33 => ?_)
    refine L.load rfl sc3 rfl qC ?_
    refine L.call rfl (evs.cons rfl <| evs.cons rfl <| evs.nil) qD qS (heard_spec) ?_
    rintro _ _ _ ⟨rfl, rfl, rfl⟩
    refine L.norm qA qA ?_
    refine L.nil ?_
    refine T.blkN ?_
    refine T.thenN ?_
    refine T.region ?_
    refine L.move rfl rfl ?_
    refine L.addN rfl rfl rfl (by omega) ?_
    refine L.assign rfl rfl ?_
    refine L.nil ?_
    refine T.thenN ?_
    exact T.back ⟨i + 1, _, by omega, rfl, rfl, rfl, rfl⟩ qI (.cons (t := 6) rfl <| SubK.nil _) (.cons (t := 0) rfl <| .cons (t := 1) rfl <| .cons (t := 5) rfl <| SubK.nil _) qD qD qF
  · try simp only [decide_eq_true_eq, decide_eq_false_iff_not, Bool.not_eq_true', Bool.not_eq_false', Bool.and_eq_true, Bool.or_eq_true] at h27
    have hwf : ¬ (i < len ∧ i < 200) := fun e => by have := hw.2 e; rw [h27] at this; cases this
    refine T.exit ?_
    refine T.thenX ?_
    refine T.thenX ?_
    refine T.blkX ?_
    refine T.thenN ?_
    refine T.seq ?_
    refine T.region ?_
    refine L.makeMap iK iK rfl (fun rb => ?_)
    refine L.assign rfl rfl ?_
    refine L.nil ?_
    refine T.thenN ?_
    refine T.seq ?_
    refine T.seq ?_
    refine T.region ?_
    refine L.move rfl rfl ?_
    refine L.call rfl (evs.cons rfl <| evs.nil) qD qS (all_spec) ?_
    rintro _ _ _ ⟨al, ac, rfl, rfl, rfl⟩
    refine L.norm qA qA ?_
    refine L.lenSl rfl Try.underlying22 rfl ?_
    refine L.move rfl rfl ?_
    refine L.nil ?_
    refine T.ownRsl qP ?_
    refine T.tblOk qM (fun hok => ?_)
    have hal := allF_len (o := ow) (F := F)
    refine T.thenN ?_
    refine T.block ?_
    refine T.loop (fun K' D' M' μ => ∃ (j : Nat) (lm : List (Int × Int)), (j ≤ (allF ow F).length ∧ RowsI ow ((allF ow F).take j) lm) ∧ K' = [(40, .int .i64 j)] ∧ D' = [] ∧ M' = [mp rb iK iK lm, tblA b ow F] ∧ μ = (allF ow F).length - j) (.cons (t := 0) rfl <| .cons (t := 5) rfl <| .cons (t := 7) rfl <| .cons (t := 38) rfl <| .cons (t := 39) rfl <| SubK.nil _) (⟨0, [], ⟨by omega, fun k => rfl⟩, rfl, rfl, rfl, rfl⟩) (.cons (t := 40) rfl <| SubK.nil _) qD qS ?_
    rintro K1 D1 M1 m1 ⟨j, lm, ⟨hj, hI⟩, rfl, rfl, rfl, rfl⟩
    refine T.norm3 qA qA qA ?_
    refine T.seq ?_
    refine T.region ?_
    refine L.ltI rfl rfl rfl ?_
    refine L.nil ?_
    refine T.thenN ?_
    refine T.seq ?_
    refine T.cond rfl (fun h41 => ?_) (fun h41 => ?_)
    · try simp only [decide_eq_true_eq, decide_eq_false_iff_not, Bool.not_eq_true', Bool.not_eq_false', Bool.and_eq_true, Bool.or_eq_true] at h41
      refine T.skip ?_
      refine T.thenN ?_
      refine T.seq ?_
      refine T.block ?_
      refine T.seq ?_
      refine T.region ?_
      have hgj : (allF ow F)[j]? = some (gd (allF ow F) j) := gd_get (by omega)
      refine L.idx (i := j) rfl Try.underlying22 sz3 rfl rfl qM (by first | rfl | omega | (simp; done)) qG (fun b42 o42 => ?_)
      refine L.load rfl sc3 rfl qC ?_
      refine L.assign rfl rfl ?_
      refine L.nil ?_
      obtain ⟨x, hxx⟩ : ∃ x, x = gd (allF ow F) j := ⟨_, rfl⟩
      rw [← hxx] at hgj ⊢
      obtain ⟨e1, e2, e3_, e4⟩ := full_elem hok hgj
      have hv := hI.val (k := rowF ow x)
      have htl : ((allF ow F).take j).length ≤ 64 := by rw [List.length_take]; omega
      refine T.thenN ?_
      refine T.seq ?_
      refine T.seq ?_
      refine T.region ?_
      refine L.move rfl rfl ?_
      refine L.move rfl rfl ?_
      refine L.eqI rfl rfl rfl ?_
      refine L.move rfl rfl ?_
      refine L.known (t := 47) rfl (show _ = Value.bool false from congrArg Value.bool (decide_eq_false e1)) ?_
      refine L.guardT (dj := 47) rfl rfl rfl ?_
      refine L.move rfl rfl ?_
      refine L.guardT (dj := 47) rfl rfl rfl ?_
      refine L.ltI rfl rfl rfl ?_
      refine L.pickF rfl rfl rfl ?_
      refine L.move rfl rfl ?_
      refine L.known (t := 51) rfl (show _ = Value.bool false from congrArg Value.bool (decide_eq_false (by omega))) ?_
      refine L.guardT (dj := 51) rfl rfl rfl ?_
      refine L.move rfl rfl ?_
      refine L.guardT (dj := 51) rfl rfl rfl ?_
      refine L.gtI rfl rfl rfl ?_
      refine L.pickF rfl rfl rfl ?_
      refine L.move rfl rfl ?_
      refine L.known (t := 55) rfl (show _ = Value.bool false from congrArg Value.bool (decide_eq_false (by omega))) ?_
      refine L.guardT (dj := 55) rfl rfl rfl ?_
      refine L.move rfl rfl ?_
      refine L.guardT (dj := 55) rfl rfl rfl ?_
      refine L.move rfl rfl ?_
      refine L.guardT (dj := 55) rfl rfl rfl ?_
      refine L.call rfl (evs.cons rfl <| evs.cons rfl <| evs.nil) qD qS (knows_spec) ?_
      rintro _ _ _ ⟨rfl, rfl, rfl⟩
      refine L.norm qA qA ?_
      refine L.guardT (dj := 55) rfl rfl rfl ?_
      refine L.notB rfl rfl ?_
      refine L.pickF rfl rfl rfl ?_
      refine L.nil ?_
      refine T.thenN ?_
      refine T.condF rfl (by rw [e4]; rfl) ?_
      refine T.skip ?_
      refine T.thenN ?_
      refine T.region ?_
      refine L.move rfl rfl ?_
      refine L.move rfl rfl ?_
      refine L.callF rfl (evs.cons rfl <| evs.nil) qD qS (bid_spec) (by rintro u D1 M1 ⟨rfl, rfl, rfl⟩; exact ⟨rfl, _, qA, qF⟩) ?_
      refine L.move rfl rfl ?_
      refine L.callF rfl (evs.cons rfl <| evs.nil) qD qS (bid_spec) (by rintro u D1 M1 ⟨rfl, rfl, rfl⟩; exact ⟨rfl, _, qA, qF⟩) ?_
      refine L.callF rfl (evs.cons rfl <| evs.cons rfl <| evs.nil) qD qS (shared_spec (x := idF ow) (y := idF x) (idF_len _) (idF_len _)) (by rintro u D1 M1 ⟨rfl, rfl, rfl⟩; exact ⟨rfl, _, qA, qF⟩) ?_
      rw [show sharedF (idF ow) (idF x) = rowF ow x from rfl]
      refine L.lookup1 rfl Try.underlying26 kt3 zv3 rfl rfl qM ?_
      refine L.known (t := 67) (u := .int .i64 ((look lm (rowF ow x)).getD 0)) rfl (by cases look lm (rowF ow x) <;> rfl) ?_
      refine L.addN rfl rfl rfl (by omega) ?_
      refine L.mapUpdate (kenc := iK) (venc := iK) (l := lm) (v := (look lm (rowF ow x)).getD 0 + 1) Try.underlying26 kt3 rfl rfl rfl rfl qP ?_
      refine L.nil ?_
      refine T.blkN ?_
      refine T.thenN ?_
      refine T.region ?_
      refine L.addN rfl rfl rfl (by omega) ?_
      refine L.move rfl rfl ?_
      refine L.nil ?_
      refine T.thenN ?_
      exact T.back ⟨j + 1, _, ⟨by omega, hI.step hgj⟩, rfl, rfl, rfl, rfl⟩ qI (.cons (t := 40) rfl <| SubK.nil _) (.cons (t := 0) rfl <| .cons (t := 5) rfl <| .cons (t := 7) rfl <| .cons (t := 38) rfl <| .cons (t := 39) rfl <| SubK.nil _) qD qD qF
    · try simp only [decide_eq_true_eq, decide_eq_false_iff_not, Bool.not_eq_true', Bool.not_eq_false', Bool.and_eq_true, Bool.or_eq_true] at h41
      obtain rfl : j = (allF ow F).length := by omega
      refine T.exit ?_
      refine T.thenX ?_
      refine T.thenX ?_
      refine T.blkX ?_
      refine T.thenN ?_
      refine T.seq ?_
      refine T.seq ?_
      refine T.mpNodup (kenc := iK) (venc := iK) qM (fun hnd => ?_)
      refine T.region ?_
      refine L.move rfl rfl ?_
      refine L.range rfl Try.underlying26 rfl qP (fun it => ?_)
      refine L.nil ?_
      refine T.thenN ?_
      refine T.block ?_
      refine T.loop (fun K' D' M' μ => ∃ (rest : List Int) (cur : Option Int), (True) ∧ K' = [] ∧ D' = [] ∧ M' = [mpi rb it iK iK lm rest cur] ∧ μ = rest.length) (.cons (t := 71) rfl <| SubK.nil _) (⟨_, _, trivial, rfl, rfl, rfl, rfl⟩) (SubK.nil _) qD qS ?_
      rintro K1 D1 M1 m1 ⟨rest, cur, _, rfl, rfl, rfl, rfl⟩
      refine T.norm3 qA qA qA ?_
      refine T.seq ?_
      refine T.region ?_
      refine L.next rfl rfl qP (fun hre => ?_) (fun k v rs hpe hkv => ?_)
      · skip
        skip
        refine L.extract rfl rfl rfl ?_
        refine L.nil ?_
        refine T.thenN ?_
        refine T.seq ?_
        refine T.condF rfl rfl ?_
        refine T.exit ?_
        refine T.thenX ?_
        refine T.thenX ?_
        refine T.blkX ?_
        refine T.thenN ?_
        refine T.seq ?_
        refine T.region ?_
        refine L.assign rfl rfl ?_
        refine L.nil ?_
        refine T.thenN ?_
        refine T.ret ?_
        exact T.ret1 rfl rfl ⟨rfl, rfl, rfl⟩ qD qF
      · skip
        skip
        refine L.extract rfl rfl rfl ?_
        refine L.nil ?_
        refine T.thenN ?_
        refine T.seq ?_
        refine T.condT rfl rfl ?_
        refine T.skip ?_
        refine T.thenN ?_
        refine T.block ?_
        refine T.seq ?_
        refine T.region ?_
        refine L.entry (ent_inj iK_inj hnd hkv) rfl rfl qM hkv ?_
        refine L.extract rfl rfl rfl ?_
        refine L.assign rfl rfl ?_
        refine L.nil ?_
        have hv4 := RowsI.le hok hI hnd hkv
        refine T.thenN ?_
        refine T.seq ?_
        refine T.region ?_
        refine L.move rfl rfl ?_
        refine L.gtI rfl rfl rfl ?_
        refine L.nil ?_
        refine T.thenN ?_
        refine T.condF rfl (decide_eq_false hv4) ?_
        refine T.skip ?_
        refine T.blkN ?_
        refine T.thenN ?_
        exact T.back ⟨rs, some k, trivial, rfl, rfl, rfl, rfl⟩ (by have := hpe.length_eq; simp at this; omega) (SubK.nil _) (.cons (t := 71) rfl <| SubK.nil _) qD qD qF
set_option maxHeartbeats 1000000 in
theorem next_law (a0 : Int) (a : Option Addr) (len cap : Nat) (xs : List Int) (hx : xs.length = len) (hg : ∀ x ∈ xs, g3 x) (hb : len ≤ 4611686018427387904) (n0 : Int)  : Spec Try.prog 5 [.int .i64 a0, .slice a len cap, .int .i64 n0] [rsl 1 a len cap (xs.map e3)] [] (fun v D' M' => v = .bool true ∧ D' = [] ∧ M' = []) := by
  refine Spec.intro (n := 87) Try.func5 rfl rfl (by decide) (Nat.le_of_ble_eq_true rfl) rfl (fun _ => qA) (fun _ => qA) ?_
  intro σ D M
  refine T.seq ?_
  refine T.region ?_
  refine L.assign rfl rfl ?_
  refine L.nil ?_
  refine T.thenN ?_
  refine T.seq ?_
  refine T.seq ?_
  refine T.region ?_
  refine L.call rfl (evs.nil) qD qS (awake_spec) ?_
  rintro _ _ _ ⟨rfl, rfl, rfl⟩
  refine L.norm qA qA ?_
  refine L.notB rfl rfl ?_
  refine L.nil ?_
  refine T.thenN ?_
  refine T.condF rfl rfl ?_
  refine T.skip ?_
  refine T.thenN ?_
  refine T.seq ?_
  have hot := tmod64 a0
  refine T.region ?_
  refine L.move rfl rfl ?_
  refine L.remI rfl rfl rfl (by decide) ?_
  refine L.addN rfl rfl rfl (by omega) ?_
  refine L.remI rfl rfl rfl (by decide) ?_
  refine L.assign rfl rfl ?_
  refine L.nil ?_
  obtain ⟨ow, how, ho1, ho2⟩ : ∃ m : Int, m = (a0.tmod 64 + 64).tmod 64 ∧ 0 ≤ m ∧ m < 64 := ⟨_, rfl, own_bounds a0⟩
  rw [← how]
  refine T.thenN ?_
  refine T.seq ?_
  refine T.region ?_
  refine L.move rfl rfl ?_
  refine L.call rfl (evs.cons rfl <| evs.nil) qD qS (bnew_spec) ?_
  rintro _ _ _ ⟨b, rfl, rfl, rfl⟩
  refine L.norm qA qA ?_
  refine L.assign rfl rfl ?_
  refine L.nil ?_
  refine T.eqv qP (show tblA b ow (fun _ => zR19) = tblA b ow (F0) from rfl) ?_
  refine T.thenN ?_
  refine T.seq ?_
  refine T.seq ?_
  refine T.region ?_
  refine L.assign rfl rfl ?_
  refine L.nil ?_
  refine T.thenN ?_
  refine T.block ?_
  refine T.loop (fun K' D' M' μ => ∃ (i : Nat) (F : Int → Row), (i ≤ len ∧ i ≤ 100) ∧ K' = [(8, .int .i64 i)] ∧ D' = [] ∧ M' = [tblA b ow F] ∧ μ = 100 - i) (.cons (t := 0) rfl <| .cons (t := 1) rfl <| .cons (t := 7) rfl <| SubK.nil _) (⟨0, _, by omega, rfl, rfl, rfl, rfl⟩) (.cons (t := 8) rfl <| SubK.nil _) qD qS ?_
  rintro K1 D1 M1 m1 ⟨i, F, ⟨hi1, hi2⟩, rfl, rfl, rfl, rfl⟩
  refine T.norm3 qA qA qA ?_
  refine T.seq ?_
  refine T.seq ?_
  refine T.cutC (fun K' D' M' => ∃ (w : Bool), (w = true ↔ (i < len ∧ i < 100)) ∧ K' = [(27, .bool w)] ∧ D' = [] ∧ M' = []) (M0 := []) (.cons (t := 0) rfl <| .cons (t := 1) rfl <| .cons (t := 7) rfl <| .cons (t := 8) rfl <| SubK.nil _) qS ?_ ?_
  · skip
    refine T.region ?_
    refine L.move rfl rfl ?_
    refine L.move rfl rfl ?_
    refine L.lenSl rfl Try.underlying22 rfl ?_
    refine L.ltI rfl rfl rfl ?_
    refine L.move rfl rfl ?_
    refine L.part (t := 24) rfl (fun h1 => ?_) (fun h1 => ?_)
    · try simp only [decide_eq_true_eq, decide_eq_false_iff_not, Bool.not_eq_true', Bool.not_eq_false', Bool.and_eq_true, Bool.or_eq_true] at h1
      refine L.guardT (dj := 24) rfl rfl rfl ?_
      refine L.move rfl rfl ?_
      refine L.guardT (dj := 24) rfl rfl rfl ?_
      refine L.ltI rfl rfl rfl ?_
      refine L.pickT rfl rfl rfl ?_
      refine L.nil ?_
      refine T.thenN ?_
      exact T.toJoin ⟨_, (by simp; omega), rfl, rfl, rfl⟩ (.cons (t := 27) rfl <| SubK.nil _) (.cons (t := 0) rfl <| .cons (t := 1) rfl <| .cons (t := 7) rfl <| .cons (t := 8) rfl <| SubK.nil _) qD qD qF
    · try simp only [decide_eq_true_eq, decide_eq_false_iff_not, Bool.not_eq_true', Bool.not_eq_false', Bool.and_eq_true, Bool.or_eq_true] at h1
      refine L.guardF (dj := 24) (c := false) rfl rfl rfl rfl rfl (by decide) ?_
      refine L.guardF (dj := 24) (c := false) rfl rfl rfl rfl rfl (by decide) ?_
      refine L.pickF rfl rfl rfl ?_
      refine L.nil ?_
      refine T.thenN ?_
      exact T.toJoin ⟨_, (by simp; omega), rfl, rfl, rfl⟩ (.cons (t := 27) rfl <| SubK.nil _) (.cons (t := 0) rfl <| .cons (t := 1) rfl <| .cons (t := 7) rfl <| .cons (t := 8) rfl <| SubK.nil _) qD qD qF
  rintro _ _ _ ⟨w, hw, rfl, rfl, rfl⟩
  refine T.norm3 qA qA qA ?_
  refine T.thenN ?_
  refine T.cond rfl (fun h27 => ?_) (fun h27 => ?_)
  · try simp only [decide_eq_true_eq, decide_eq_false_iff_not, Bool.not_eq_true', Bool.not_eq_false', Bool.and_eq_true, Bool.or_eq_true] at h27
    have hwt := hw.1 h27
    refine T.skip ?_
    refine T.thenN ?_
    refine T.seq ?_
    refine T.block ?_
    refine T.seq ?_
    refine T.tblOk qM (fun hok => ?_)
    refine T.region ?_
    have hgi : xs[i]? = some (gd xs i) := gd_get (by omega)
    refine L.move rfl rfl ?_
    refine L.move rfl rfl ?_
    refine L.move rfl rfl ?_
    refine L.idx (i := i) rfl Try.underlying22 sz3 rfl rfl qM (by first | rfl | omega | (simp; done)) qG (fun b34 o34 => ?_)
    refine L.load rfl sc3 rfl qC ?_
    refine L.call rfl (evs.cons rfl <| evs.cons rfl <| evs.nil) qD qS (heard_spec) ?_
    rintro _ _ _ ⟨rfl, rfl, rfl⟩
    refine L.norm qA qA ?_
    refine L.move rfl rfl ?_
    refine L.extract rfl rfl rfl ?_
    refine L.extract rfl rfl rfl ?_
    refine L.assign rfl rfl ?_
    refine L.assign rfl rfl ?_
    refine L.nil ?_
    refine T.thenN ?_
    refine T.seq ?_
    refine T.seq ?_
    refine T.region ?_
    refine L.move rfl rfl ?_
    refine L.notB rfl rfl ?_
    refine L.nil ?_
    refine T.thenN ?_
    refine T.cond rfl (fun h40 => ?_) (fun h40 => ?_)
    · try simp only [decide_eq_true_eq, decide_eq_false_iff_not, Bool.not_eq_true', Bool.not_eq_false', Bool.and_eq_true, Bool.or_eq_true] at h40
      refine T.exit ?_
      refine T.thenX ?_
      refine T.blkX ?_
      refine T.thenN ?_
      refine T.region ?_
      refine L.move rfl rfl ?_
      refine L.addN rfl rfl rfl (by omega) ?_
      refine L.assign rfl rfl ?_
      refine L.nil ?_
      refine T.thenN ?_
      exact T.back ⟨i + 1, _, by omega, rfl, rfl, rfl, rfl⟩ qI (.cons (t := 8) rfl <| SubK.nil _) (.cons (t := 0) rfl <| .cons (t := 1) rfl <| .cons (t := 7) rfl <| SubK.nil _) qD qD qF
    · try simp only [decide_eq_true_eq, decide_eq_false_iff_not, Bool.not_eq_true', Bool.not_eq_false', Bool.and_eq_true, Bool.or_eq_true] at h40
      have hk : (heardA ow F (gd xs i)).2 = true := by simpa using h40
      have hs := next_step hok hk
      refine T.skip ?_
      refine T.thenN ?_
      refine T.seq ?_
      refine T.region ?_
      refine L.move rfl rfl ?_
      refine L.call rfl (evs.cons rfl <| evs.nil) qD qS (all_spec) ?_
      rintro _ _ _ ⟨al, ac, rfl, rfl, rfl⟩
      refine L.norm qA qA ?_
      refine L.lenSl rfl Try.underlying22 rfl ?_
      refine L.assign rfl rfl ?_
      refine L.nil ?_
      have hal := allF_len (o := ow) (F := heardF ow F (gd xs i))
      refine T.thenN ?_
      refine T.seq ?_
      refine T.region ?_
      refine L.move rfl rfl ?_
      refine L.move rfl rfl ?_
      refine L.call rfl (evs.cons rfl <| evs.cons rfl <| evs.nil) qD qS (knows_spec) ?_
      rintro _ _ _ ⟨rfl, rfl, rfl⟩
      refine L.norm qA qA ?_
      refine L.notB rfl rfl ?_
      refine L.move rfl rfl ?_
      refine L.known (t := 48) rfl (show _ = Value.bool false from congrArg Value.bool (by rw [hs.1]; rfl)) ?_
      refine L.guardT (dj := 48) rfl rfl rfl ?_
      refine L.move rfl rfl ?_
      refine L.guardT (dj := 48) rfl rfl rfl ?_
      refine L.move rfl rfl ?_
      refine L.guardT (dj := 48) rfl rfl rfl ?_
      refine L.move rfl rfl ?_
      refine L.guardT (dj := 48) rfl rfl rfl ?_
      refine L.idx (i := i) rfl Try.underlying22 sz3 rfl rfl qM (by first | rfl | omega | (simp; done)) qG (fun b52 o52 => ?_)
      refine L.guardT (dj := 48) rfl rfl rfl ?_
      refine L.load rfl sc3 rfl qC ?_
      refine L.guardT (dj := 48) rfl rfl rfl ?_
      refine L.call rfl (evs.cons rfl <| evs.cons rfl <| evs.nil) qD qS (knows_spec) ?_
      rintro _ _ _ ⟨rfl, rfl, rfl⟩
      refine L.norm qA qA ?_
      refine L.pickF rfl rfl rfl ?_
      refine L.move rfl rfl ?_
      refine L.known (t := 56) rfl (show _ = Value.bool false from congrArg Value.bool (hs.2.1)) ?_
      refine L.guardT (dj := 56) rfl rfl rfl ?_
      refine L.move rfl rfl ?_
      refine L.guardT (dj := 56) rfl rfl rfl ?_
      refine L.move rfl rfl ?_
      refine L.guardT (dj := 56) rfl rfl rfl ?_
      refine L.call rfl (evs.cons rfl <| evs.cons rfl <| evs.nil) qD qS (gone_spec) ?_
      rintro _ _ _ ⟨rfl, rfl, rfl⟩
      refine L.norm qA qA ?_
      refine L.guardT (dj := 56) rfl rfl rfl ?_
      refine L.notB rfl rfl ?_
      refine L.pickF rfl rfl rfl ?_
      refine L.move rfl rfl ?_
      refine L.known (t := 62) rfl (show _ = Value.bool false from congrArg Value.bool (by rw [hs.2.2.1]; rfl)) ?_
      refine L.guardT (dj := 62) rfl rfl rfl ?_
      refine L.move rfl rfl ?_
      refine L.guardT (dj := 62) rfl rfl rfl ?_
      refine L.move rfl rfl ?_
      refine L.guardT (dj := 62) rfl rfl rfl ?_
      refine L.move rfl rfl ?_
      refine L.guardT (dj := 62) rfl rfl rfl ?_
      refine L.idx (i := i) rfl Try.underlying22 sz3 rfl rfl qM (by first | rfl | omega | (simp; done)) qG (fun b66 o66 => ?_)
      refine L.guardT (dj := 62) rfl rfl rfl ?_
      refine L.load rfl sc3 rfl qC ?_
      refine L.guardT (dj := 62) rfl rfl rfl ?_
      refine L.call rfl (evs.cons rfl <| evs.cons rfl <| evs.nil) qD qS (knows_spec) ?_
      rintro _ _ _ ⟨rfl, rfl, rfl⟩
      refine L.norm qA qA ?_
      refine L.guardT (dj := 62) rfl rfl rfl ?_
      refine L.notB rfl rfl ?_
      refine L.pickF rfl rfl rfl ?_
      refine L.move rfl rfl ?_
      refine L.known (t := 71) rfl (show _ = Value.bool false from congrArg Value.bool (by rw [hs.2.2.2.1]; rfl)) ?_
      refine L.guardT (dj := 71) rfl rfl rfl ?_
      refine L.move rfl rfl ?_
      refine L.guardT (dj := 71) rfl rfl rfl ?_
      refine L.move rfl rfl ?_
      refine L.guardT (dj := 71) rfl rfl rfl ?_
      refine L.call rfl (evs.cons rfl <| evs.cons rfl <| evs.nil) qD qS (knows_spec) ?_
      rintro _ _ _ ⟨rfl, rfl, rfl⟩
      refine L.norm qA qA ?_
      refine L.pickF rfl rfl rfl ?_
      refine L.move rfl rfl ?_
      refine L.known (t := 76) rfl (show _ = Value.bool false from congrArg Value.bool (hs.2.2.2.2.1)) ?_
      refine L.guardT (dj := 76) rfl rfl rfl ?_
      refine L.move rfl rfl ?_
      refine L.guardT (dj := 76) rfl rfl rfl ?_
      refine L.call rfl (evs.cons rfl <| evs.nil) qD qS (all_spec) ?_
      rintro _ _ _ ⟨al, ac, rfl, rfl, rfl⟩
      refine L.norm qA qA ?_
      refine L.guardT (dj := 76) rfl rfl rfl ?_
      refine L.lenSl rfl Try.underlying22 rfl ?_
      refine L.guardT (dj := 76) rfl rfl rfl ?_
      refine L.move rfl rfl ?_
      refine L.guardT (dj := 76) rfl rfl rfl ?_
      refine L.neI rfl rfl rfl ?_
      refine L.pickF rfl rfl rfl ?_
      refine L.nil ?_
      refine T.thenN ?_
      refine T.condF rfl (decide_eq_false (by rw [hs.2.2.2.2.2]; simp)) ?_
      refine T.skip ?_
      refine T.blkN ?_
      refine T.thenN ?_
      refine T.region ?_
      refine L.move rfl rfl ?_
      refine L.addN rfl rfl rfl (by omega) ?_
      refine L.assign rfl rfl ?_
      refine L.nil ?_
      refine T.thenN ?_
      exact T.back ⟨i + 1, _, by omega, rfl, rfl, rfl, rfl⟩ qI (.cons (t := 8) rfl <| SubK.nil _) (.cons (t := 0) rfl <| .cons (t := 1) rfl <| .cons (t := 7) rfl <| SubK.nil _) qD qD qF
  · try simp only [decide_eq_true_eq, decide_eq_false_iff_not, Bool.not_eq_true', Bool.not_eq_false', Bool.and_eq_true, Bool.or_eq_true] at h27
    have hwf : ¬ (i < len ∧ i < 100) := fun e => by have := hw.2 e; rw [h27] at this; cases this
    refine T.exit ?_
    refine T.thenX ?_
    refine T.thenX ?_
    refine T.blkX ?_
    refine T.thenN ?_
    refine T.seq ?_
    refine T.region ?_
    refine L.move rfl rfl ?_
    refine L.move rfl rfl ?_
    refine L.call rfl (evs.cons rfl <| evs.cons rfl <| evs.nil) qD qS (gone_spec) ?_
    rintro _ _ _ ⟨rfl, rfl, rfl⟩
    refine L.norm qA qA ?_
    refine L.notB rfl rfl ?_
    refine L.assign rfl rfl ?_
    refine L.nil ?_
    refine T.thenN ?_
    refine T.ret ?_
    exact T.ret1 rfl rfl ⟨congrArg Value.bool (by rw [gone_own]; rfl), rfl, rfl⟩ qD qF
set_option maxHeartbeats 1000000 in
theorem stay_law (a0 : Int) (a : Option Addr) (len cap : Nat) (xs : List Int) (hx : xs.length = len) (hg : ∀ x ∈ xs, g3 x) (hb : len ≤ 4611686018427387904)  : Spec Try.prog 3 [.int .i64 a0, .slice a len cap] [rsl 1 a len cap (xs.map e3)] [] (fun v D' M' => v = .bool true ∧ D' = [] ∧ M' = []) := by
  refine Spec.intro (n := 71) Try.func3 rfl rfl (by decide) (Nat.le_of_ble_eq_true rfl) rfl (fun _ => qA) (fun _ => qA) ?_
  intro σ D M
  refine T.seq ?_
  refine T.region ?_
  refine L.assign rfl rfl ?_
  refine L.nil ?_
  refine T.thenN ?_
  refine T.seq ?_
  refine T.seq ?_
  refine T.region ?_
  refine L.call rfl (evs.nil) qD qS (awake_spec) ?_
  rintro _ _ _ ⟨rfl, rfl, rfl⟩
  refine L.norm qA qA ?_
  refine L.notB rfl rfl ?_
  refine L.nil ?_
  refine T.thenN ?_
  refine T.condF rfl rfl ?_
  refine T.skip ?_
  refine T.thenN ?_
  refine T.seq ?_
  have hot := tmod64 a0
  refine T.region ?_
  refine L.move rfl rfl ?_
  refine L.remI rfl rfl rfl (by decide) ?_
  refine L.addN rfl rfl rfl (by omega) ?_
  refine L.remI rfl rfl rfl (by decide) ?_
  refine L.assign rfl rfl ?_
  refine L.nil ?_
  obtain ⟨ow, how, ho1, ho2⟩ : ∃ m : Int, m = (a0.tmod 64 + 64).tmod 64 ∧ 0 ≤ m ∧ m < 64 := ⟨_, rfl, own_bounds a0⟩
  rw [← how]
  refine T.thenN ?_
  refine T.seq ?_
  refine T.region ?_
  refine L.move rfl rfl ?_
  refine L.call rfl (evs.cons rfl <| evs.nil) qD qS (bnew_spec) ?_
  rintro _ _ _ ⟨b, rfl, rfl, rfl⟩
  refine L.norm qA qA ?_
  refine L.assign rfl rfl ?_
  refine L.nil ?_
  refine T.eqv qP (show tblA b ow (fun _ => zR19) = tblA b ow (F0) from rfl) ?_
  refine T.thenN ?_
  refine T.seq ?_
  refine T.region ?_
  refine L.makeMap iK iK rfl (fun rb => ?_)
  refine L.assign rfl rfl ?_
  refine L.nil ?_
  refine T.thenN ?_
  refine T.seq ?_
  refine T.seq ?_
  refine T.region ?_
  refine L.assign rfl rfl ?_
  refine L.nil ?_
  refine T.thenN ?_
  refine T.block ?_
  refine T.loop (fun K' D' M' μ => ∃ (i : Nat) (F : Int → Row) (lm : List (Int × Int)), ((i ≤ len ∧ i ≤ 150) ∧ StI ow F lm ∧ VI lm i) ∧ K' = [(7, .int .i64 i)] ∧ D' = [] ∧ M' = [tblA b ow F, mp rb iK iK lm] ∧ μ = 150 - i) (.cons (t := 1) rfl <| .cons (t := 5) rfl <| .cons (t := 6) rfl <| SubK.nil _) (⟨0, _, [], ⟨by omega, stI_0, fun k v h => by cases h⟩, rfl, rfl, rfl, rfl⟩) (.cons (t := 7) rfl <| SubK.nil _) qD qS ?_
  rintro K1 D1 M1 m1 ⟨i, F, lm, ⟨⟨hi1, hi2⟩, hI, hV⟩, rfl, rfl, rfl, rfl⟩
  refine T.norm3 qA qA qA ?_
  refine T.seq ?_
  refine T.seq ?_
  refine T.cutC (fun K' D' M' => ∃ (w : Bool), (w = true ↔ (i < len ∧ i < 150)) ∧ K' = [(28, .bool w)] ∧ D' = [] ∧ M' = []) (M0 := []) (.cons (t := 1) rfl <| .cons (t := 5) rfl <| .cons (t := 6) rfl <| .cons (t := 7) rfl <| SubK.nil _) qS ?_ ?_
  · skip
    refine T.region ?_
    refine L.move rfl rfl ?_
    refine L.move rfl rfl ?_
    refine L.lenSl rfl Try.underlying22 rfl ?_
    refine L.ltI rfl rfl rfl ?_
    refine L.move rfl rfl ?_
    refine L.part (t := 25) rfl (fun h1 => ?_) (fun h1 => ?_)
    · try simp only [decide_eq_true_eq, decide_eq_false_iff_not, Bool.not_eq_true', Bool.not_eq_false', Bool.and_eq_true, Bool.or_eq_true] at h1
      refine L.guardT (dj := 25) rfl rfl rfl ?_
      refine L.move rfl rfl ?_
      refine L.guardT (dj := 25) rfl rfl rfl ?_
      refine L.ltI rfl rfl rfl ?_
      refine L.pickT rfl rfl rfl ?_
      refine L.nil ?_
      refine T.thenN ?_
      exact T.toJoin ⟨_, (by simp; omega), rfl, rfl, rfl⟩ (.cons (t := 28) rfl <| SubK.nil _) (.cons (t := 1) rfl <| .cons (t := 5) rfl <| .cons (t := 6) rfl <| .cons (t := 7) rfl <| SubK.nil _) qD qD qF
    · try simp only [decide_eq_true_eq, decide_eq_false_iff_not, Bool.not_eq_true', Bool.not_eq_false', Bool.and_eq_true, Bool.or_eq_true] at h1
      refine L.guardF (dj := 25) (c := false) rfl rfl rfl rfl rfl (by decide) ?_
      refine L.guardF (dj := 25) (c := false) rfl rfl rfl rfl rfl (by decide) ?_
      refine L.pickF rfl rfl rfl ?_
      refine L.nil ?_
      refine T.thenN ?_
      exact T.toJoin ⟨_, (by simp; omega), rfl, rfl, rfl⟩ (.cons (t := 28) rfl <| SubK.nil _) (.cons (t := 1) rfl <| .cons (t := 5) rfl <| .cons (t := 6) rfl <| .cons (t := 7) rfl <| SubK.nil _) qD qD qF
  rintro _ _ _ ⟨w, hw, rfl, rfl, rfl⟩
  refine T.norm3 qA qA qA ?_
  refine T.thenN ?_
  refine T.cond rfl (fun h28 => ?_) (fun h28 => ?_)
  · try simp only [decide_eq_true_eq, decide_eq_false_iff_not, Bool.not_eq_true', Bool.not_eq_false', Bool.and_eq_true, Bool.or_eq_true] at h28
    have hwt := hw.1 h28
    refine T.skip ?_
    refine T.thenN ?_
    refine T.seq ?_
    refine T.block ?_
    refine T.seq ?_
    have hot2 := tmod64 (gd xs i)
    refine T.region ?_
    have hgi : xs[i]? = some (gd xs i) := gd_get (by omega)
    refine L.move rfl rfl ?_
    refine L.move rfl rfl ?_
    refine L.idx (i := i) rfl Try.underlying22 sz3 rfl rfl qM (by first | rfl | omega | (simp; done)) qG (fun b33 o33 => ?_)
    refine L.load rfl sc3 rfl qC ?_
    refine L.remI rfl rfl rfl (by decide) ?_
    refine L.addN rfl rfl rfl (by omega) ?_
    refine L.remI rfl rfl rfl (by decide) ?_
    refine L.assign rfl rfl ?_
    refine L.nil ?_
    obtain ⟨n, hn, hn1, hn2⟩ : ∃ m : Int, m = ((gd xs i).tmod 64 + 64).tmod 64 ∧ 0 ≤ m ∧ m < 64 := ⟨_, rfl, own_bounds (gd xs i)⟩
    rw [← hn]
    refine T.thenN ?_
    refine T.seq ?_
    refine T.region ?_
    refine L.move rfl rfl ?_
    refine L.move rfl rfl ?_
    refine L.call rfl (evs.cons rfl <| evs.cons rfl <| evs.nil) qD qS (heard_spec) ?_
    rintro _ _ _ ⟨rfl, rfl, rfl⟩
    refine L.norm qA qA ?_
    refine L.move rfl rfl ?_
    refine L.extract rfl rfl rfl ?_
    refine L.extract rfl rfl rfl ?_
    refine L.assign rfl rfl ?_
    refine L.assign rfl rfl ?_
    refine L.nil ?_
    refine T.thenN ?_
    refine T.seq ?_
    refine T.seq ?_
    refine T.region ?_
    refine L.move rfl rfl ?_
    refine L.nil ?_
    refine T.thenN ?_
    refine T.cutC (fun K' D' M' => ∃ (F2 : Int → Row), (F2 = stF ow F n) ∧ K' = [] ∧ D' = [] ∧ M' = [tblA b ow F2]) (M0 := [tblA b ow (heardF ow F n)]) (.cons (t := 1) rfl <| .cons (t := 5) rfl <| .cons (t := 6) rfl <| .cons (t := 7) rfl <| .cons (t := 8) rfl <| SubK.nil _) qS ?_ ?_
    · skip
      refine T.cond rfl (fun h44 => ?_) (fun h44 => ?_)
      · try simp only [decide_eq_true_eq, decide_eq_false_iff_not, Bool.not_eq_true', Bool.not_eq_false', Bool.and_eq_true, Bool.or_eq_true] at h44
        refine T.region ?_
        refine L.move rfl rfl ?_
        refine L.move rfl rfl ?_
        refine L.call rfl (evs.cons rfl <| evs.cons rfl <| evs.nil) qD qS (heard_spec) ?_
        rintro _ _ _ ⟨rfl, rfl, rfl⟩
        refine L.norm qA qA ?_
        refine L.nil ?_
        refine T.thenN ?_
        exact T.toJoin ⟨_, (by unfold stF; first | rw [if_pos h44] | rw [if_neg (by rw [h44]; decide)]), rfl, rfl, rfl⟩ (SubK.nil _) (.cons (t := 1) rfl <| .cons (t := 5) rfl <| .cons (t := 6) rfl <| .cons (t := 7) rfl <| .cons (t := 8) rfl <| SubK.nil _) qD qD qF
      · try simp only [decide_eq_true_eq, decide_eq_false_iff_not, Bool.not_eq_true', Bool.not_eq_false', Bool.and_eq_true, Bool.or_eq_true] at h44
        refine T.skip ?_
        refine T.thenN ?_
        exact T.toJoin ⟨_, (by unfold stF; first | rw [if_pos h44] | rw [if_neg (by rw [h44]; decide)]), rfl, rfl, rfl⟩ (SubK.nil _) (.cons (t := 1) rfl <| .cons (t := 5) rfl <| .cons (t := 6) rfl <| .cons (t := 7) rfl <| .cons (t := 8) rfl <| SubK.nil _) qD qD qF
    rintro _ _ _ ⟨F2, hF2, rfl, rfl, rfl⟩
    refine T.norm3 qA qA qA ?_
    subst hF2
    refine T.thenN ?_
    refine T.seq ?_
    refine T.seq ?_
    refine T.region ?_
    refine L.move rfl rfl ?_
    refine L.move rfl rfl ?_
    refine L.call rfl (evs.cons rfl <| evs.cons rfl <| evs.nil) qD qS (knows_spec) ?_
    rintro _ _ _ ⟨rfl, rfl, rfl⟩
    refine L.norm qA qA ?_
    refine L.nil ?_
    refine T.thenN ?_
    refine T.cutC (fun K' D' M' => ∃ (lm2 : List (Int × Int)), (StI ow (stF ow F n) lm2 ∧ VI lm2 ((i : Int) + 1)) ∧ K' = [] ∧ D' = [] ∧ M' = [mp rb iK iK lm2]) (M0 := [mp rb iK iK lm]) (.cons (t := 1) rfl <| .cons (t := 5) rfl <| .cons (t := 6) rfl <| .cons (t := 7) rfl <| SubK.nil _) qS ?_ ?_
    · skip
      refine T.cond rfl (fun h50 => ?_) (fun h50 => ?_)
      · try simp only [decide_eq_true_eq, decide_eq_false_iff_not, Bool.not_eq_true', Bool.not_eq_false', Bool.and_eq_true, Bool.or_eq_true] at h50
        have hvg := hV.get (k := n) (by omega)
        refine T.region ?_
        refine L.move rfl rfl ?_
        refine L.move rfl rfl ?_
        refine L.lookup1 rfl Try.underlying26 kt3 zv3 rfl rfl qM ?_
        refine L.known (t := 53) (u := .int .i64 ((look lm n).getD 0)) rfl (by cases look lm n <;> rfl) ?_
        refine L.addN rfl rfl rfl (by omega) ?_
        refine L.mapUpdate (kenc := iK) (venc := iK) (l := lm) (v := (look lm n).getD 0 + 1) Try.underlying26 kt3 rfl rfl rfl rfl qP ?_
        refine L.nil ?_
        refine T.thenN ?_
        exact T.toJoin ⟨_, (by first | exact ⟨stI_yes hI h50, hV.put (by omega)⟩ | exact ⟨stI_no hI h50, hV.up⟩), rfl, rfl, rfl⟩ (SubK.nil _) (.cons (t := 1) rfl <| .cons (t := 5) rfl <| .cons (t := 6) rfl <| .cons (t := 7) rfl <| SubK.nil _) qD qD qF
      · try simp only [decide_eq_true_eq, decide_eq_false_iff_not, Bool.not_eq_true', Bool.not_eq_false', Bool.and_eq_true, Bool.or_eq_true] at h50
        refine T.skip ?_
        refine T.thenN ?_
        exact T.toJoin ⟨_, (by first | exact ⟨stI_yes hI h50, hV.put (by omega)⟩ | exact ⟨stI_no hI h50, hV.up⟩), rfl, rfl, rfl⟩ (SubK.nil _) (.cons (t := 1) rfl <| .cons (t := 5) rfl <| .cons (t := 6) rfl <| .cons (t := 7) rfl <| SubK.nil _) qD qD qF
    rintro _ _ _ ⟨lm2, ⟨hI2, hV2⟩, rfl, rfl, rfl⟩
    refine T.norm3 qA qA qA ?_
    refine T.thenN ?_
    refine T.seq ?_
    refine T.mpNodup (kenc := iK) (venc := iK) qM (fun hnd => ?_)
    refine T.region ?_
    refine L.move rfl rfl ?_
    refine L.range rfl Try.underlying26 rfl qP (fun it => ?_)
    refine L.nil ?_
    refine T.thenN ?_
    refine T.block ?_
    refine T.loop (fun K' D' M' μ => ∃ (rest : List Int) (cur : Option Int), (True) ∧ K' = [] ∧ D' = [] ∧ M' = [mpi rb it iK iK lm2 rest cur, tblA b ow (stF ow F n)] ∧ μ = rest.length) (.cons (t := 1) rfl <| .cons (t := 5) rfl <| .cons (t := 6) rfl <| .cons (t := 7) rfl <| .cons (t := 56) rfl <| SubK.nil _) (⟨_, _, trivial, rfl, rfl, rfl, rfl⟩) (SubK.nil _) qD qS ?_
    rintro K1 D1 M1 m1 ⟨rest, cur, _, rfl, rfl, rfl, rfl⟩
    refine T.norm3 qA qA qA ?_
    refine T.seq ?_
    refine T.region ?_
    refine L.next rfl rfl qP (fun hre => ?_) (fun k v rs hpe hkv => ?_)
    · skip
      skip
      refine L.extract rfl rfl rfl ?_
      refine L.nil ?_
      refine T.thenN ?_
      refine T.seq ?_
      refine T.condF rfl rfl ?_
      refine T.exit ?_
      refine T.thenX ?_
      refine T.thenX ?_
      refine T.blkX ?_
      refine T.blkN ?_
      refine T.thenN ?_
      refine T.region ?_
      refine L.move rfl rfl ?_
      refine L.addN rfl rfl rfl (by omega) ?_
      refine L.assign rfl rfl ?_
      refine L.nil ?_
      refine T.thenN ?_
      refine T.mpiMp qP ?_
      exact T.back ⟨i + 1, _, _, ⟨by omega, hI2, hV2⟩, rfl, rfl, rfl, rfl⟩ qI (.cons (t := 7) rfl <| SubK.nil _) (.cons (t := 1) rfl <| .cons (t := 5) rfl <| .cons (t := 6) rfl <| SubK.nil _) qD qD qF
    · skip
      skip
      refine L.extract rfl rfl rfl ?_
      refine L.nil ?_
      refine T.thenN ?_
      refine T.seq ?_
      refine T.condT rfl rfl ?_
      refine T.skip ?_
      refine T.thenN ?_
      refine T.block ?_
      refine T.seq ?_
      refine T.region ?_
      refine L.entry (ent_inj iK_inj hnd hkv) rfl rfl qM hkv ?_
      refine L.extract rfl rfl rfl ?_
      refine L.assign rfl rfl ?_
      refine L.nil ?_
      have hkn := stI_knows hI2 hkv
      refine T.thenN ?_
      refine T.seq ?_
      refine T.region ?_
      refine L.move rfl rfl ?_
      refine L.move rfl rfl ?_
      refine L.call rfl (evs.cons rfl <| evs.cons rfl <| evs.nil) qD qS (knows_spec) ?_
      rintro _ _ _ ⟨rfl, rfl, rfl⟩
      refine L.norm qA qA ?_
      refine L.notB rfl rfl ?_
      refine L.nil ?_
      refine T.thenN ?_
      refine T.condF rfl (by rw [hkn]; rfl) ?_
      refine T.skip ?_
      refine T.blkN ?_
      refine T.thenN ?_
      exact T.back ⟨rs, some k, trivial, rfl, rfl, rfl, rfl⟩ (by have := hpe.length_eq; simp at this; omega) (SubK.nil _) (.cons (t := 1) rfl <| .cons (t := 5) rfl <| .cons (t := 6) rfl <| .cons (t := 7) rfl <| .cons (t := 56) rfl <| SubK.nil _) qD qD qF
  · try simp only [decide_eq_true_eq, decide_eq_false_iff_not, Bool.not_eq_true', Bool.not_eq_false', Bool.and_eq_true, Bool.or_eq_true] at h28
    have hwf : ¬ (i < len ∧ i < 150) := fun e => by have := hw.2 e; rw [h28] at this; cases this
    refine T.exit ?_
    refine T.thenX ?_
    refine T.thenX ?_
    refine T.blkX ?_
    refine T.thenN ?_
    refine T.seq ?_
    refine T.mpNodup (kenc := iK) (venc := iK) qM (fun hnd => ?_)
    refine T.region ?_
    refine L.move rfl rfl ?_
    refine L.call rfl (evs.cons rfl <| evs.nil) qD qS (all_spec) ?_
    rintro _ _ _ ⟨al, ac, rfl, rfl, rfl⟩
    refine L.norm qA qA ?_
    refine L.lenSl rfl Try.underlying22 rfl ?_
    refine L.move rfl rfl ?_
    refine L.lenMap rfl Try.underlying26 rfl qM ?_
    refine L.eqI rfl rfl rfl ?_
    refine L.assign rfl rfl ?_
    refine L.nil ?_
    refine T.thenN ?_
    refine T.ret ?_
    exact T.ret1 rfl rfl ⟨congrArg Value.bool (decide_eq_true (by rw [stI_len hI hnd])), rfl, rfl⟩ qD qF
end Cv
