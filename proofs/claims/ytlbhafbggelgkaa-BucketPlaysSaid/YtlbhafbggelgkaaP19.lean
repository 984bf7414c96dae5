/-
  What Heard and Gone make of a row: plain laws.
-/
import Derived.Test.YtlbhafbggelgkaaU19
import Derived.Test.YtlbhafbggelgkaaProg
import Derived.KernelRfl
set_option maxRecDepth 10000
set_option linter.unusedSimpArgs false
set_option linter.unusedVariables false
namespace Cv
open Go Go.Proofs
/-! ## what Heard and Gone make of a row -/
def hRow (r : Row) (n : Int) : Row :=
  if 0 ≤ ixF n r.1 then (r.1.eraseIdx (ixF n r.1).toNat ++ [n], if ixF n r.1 = 0 then -1 else r.2)
  else if (r.1.length : Int) < 4 then (r.1 ++ [n], r.2)
  else if r.2 < 0 then (r.1, n) else r
def hAsk (r : Row) (n : Int) : Int × Bool :=
  if 0 ≤ ixF n r.1 then (0, false) else if (r.1.length : Int) < 4 then (0, false) else if r.2 < 0 then (gd r.1 0, true) else (0, false)
def gRow (r : Row) (n : Int) : Row :=
  if ixF n r.1 < 0 then r else if 0 ≤ r.2 then (r.1.eraseIdx (ixF n r.1).toNat ++ [r.2], -1) else (r.1.eraseIdx (ixF n r.1).toNat, r.2)
def Bad (o n : Int) : Prop := n = o ∨ n < 0 ∨ 64 ≤ n
instance (o n : Int) : Decidable (Bad o n) := by unfold Bad; exact inferInstance
def heardF (o : Int) (F : Int → Row) (n : Int) : Int → Row := if Bad o n then F else updR F (rowF o n) (hRow (F (rowF o n)) n)
def heardA (o : Int) (F : Int → Row) (n : Int) : Int × Bool := if Bad o n then (0, false) else hAsk (F (rowF o n)) n
def goneF (o : Int) (F : Int → Row) (n : Int) : Int → Row := if Bad o n then F else updR F (rowF o n) (gRow (F (rowF o n)) n)
def goneB (o : Int) (F : Int → Row) (n : Int) : Bool := decide (¬ Bad o n) && decide (0 ≤ ixF n (F (rowF o n)).1)
theorem ixF_mem {v : Int} {xs : List Int} (h : 0 ≤ ixF v xs) : v ∈ xs := by
  have e : decide (0 ≤ ixF v xs) = true := decide_eq_true h
  rw [ixF_ge] at e; simpa using e
theorem ixF_not {v : Int} {xs : List Int} (h : ¬ 0 ≤ ixF v xs) : v ∉ xs := by
  have e : decide (0 ≤ ixF v xs) = false := decide_eq_false h
  rw [ixF_ge] at e; simpa using e
theorem ixF_get {v : Int} : ∀ {xs : List Int}, 0 ≤ ixF v xs → xs[(ixF v xs).toNat]? = some v
  | [], h => by simp [ixF] at h
  | x :: xs, h => by
    by_cases e : x = v
    · simp [ixF, e]
    · by_cases h0 : ixF v xs < 0
      · rw [ixF, if_neg e, if_pos h0] at h; omega
      · have e2 : ixF v (x :: xs) = ixF v xs + 1 := by rw [ixF, if_neg e, if_neg h0]
        rw [e2, show (ixF v xs + 1).toNat = (ixF v xs).toNat + 1 from by omega, List.getElem?_cons_succ]
        exact ixF_get (by omega)
theorem ixF_erase {v : Int} : ∀ {xs : List Int}, 0 ≤ ixF v xs → xs.eraseIdx (ixF v xs).toNat = xs.erase v
  | [], h => by simp [ixF] at h
  | x :: xs, h => by
    by_cases e : x = v
    · subst e; simp [ixF]
    · by_cases h0 : ixF v xs < 0
      · rw [ixF, if_neg e, if_pos h0] at h; omega
      · have e2 : ixF v (x :: xs) = ixF v xs + 1 := by rw [ixF, if_neg e, if_neg h0]
        rw [e2, show (ixF v xs + 1).toNat = (ixF v xs).toNat + 1 from by omega, List.eraseIdx_cons_succ, ixF_erase (by omega), List.erase_cons_tail (by simpa using e)]
theorem hRow_ok {o k n : Int} {r : Row} (h : ROk o k r) (hv : VA o n) (hk : rowF o n = k) : ROk o k (hRow r n) := by
  obtain ⟨h1, h2, h3, h4⟩ := h
  unfold hRow
  by_cases c1 : 0 ≤ ixF n r.1
  · rw [if_pos c1, ixF_erase c1]
    have hm := ixF_mem c1
    have hpos : 0 < r.1.length := List.length_pos_of_mem hm
    have hlen : (r.1.erase n ++ [n]).length = r.1.length := by simp [List.length_erase_of_mem hm]; omega
    refine ⟨fun m hm' => ?_, ?_, by simp only; rw [hlen]; exact h3, ?_⟩
    · rcases List.mem_append.1 hm' with q | q
      · exact h1 m (List.mem_of_mem_erase q)
      · simp at q; subst q; exact ⟨hv, hk⟩
    · rw [List.nodup_append]
      refine ⟨h2.erase n, by simp, fun a ha b hb => ?_⟩
      simp at hb; subst hb
      rintro rfl
      exact (h2.not_mem_erase) ha
    · by_cases c0 : ixF n r.1 = 0
      · rw [if_pos c0]; exact .inl rfl
      · rw [if_neg c0]
        rcases h4 with q | ⟨q1, q2, q3, q4⟩
        · exact .inl q
        · refine .inr ⟨q1, q2, ?_, by simp only; rw [hlen]; exact q4⟩
          intro hq
          rcases List.mem_append.1 hq with q | q
          · exact q3 (List.mem_of_mem_erase q)
          · simp at q; rw [q] at q3; exact q3 hm
  · rw [if_neg c1]
    have hm := ixF_not c1
    by_cases c2 : (r.1.length : Int) < 4
    · rw [if_pos c2]
      refine ⟨fun m hm' => ?_, ?_, by simp; omega, ?_⟩
      · rcases List.mem_append.1 hm' with q | q
        · exact h1 m q
        · simp at q; subst q; exact ⟨hv, hk⟩
      · rw [List.nodup_append]
        refine ⟨h2, by simp, fun a ha b hb => ?_⟩
        simp at hb; subst hb
        rintro rfl
        exact hm ha
      · rcases h4 with q | ⟨q1, q2, q3, q4⟩
        · exact .inl q
        · omega
    · rw [if_neg c2]
      by_cases c3 : r.2 < 0
      · rw [if_pos c3]
        exact ⟨h1, h2, h3, .inr ⟨hv, hk, hm, by simp only; omega⟩⟩
      · rw [if_neg c3]
        exact ⟨h1, h2, h3, h4⟩
theorem gRow_ok {o k n : Int} {r : Row} (h : ROk o k r) : ROk o k (gRow r n) := by
  obtain ⟨h1, h2, h3, h4⟩ := h
  unfold gRow
  by_cases c1 : ixF n r.1 < 0
  · rw [if_pos c1]; exact ⟨h1, h2, h3, h4⟩
  rw [if_neg c1, ixF_erase (by omega)]
  have hm := ixF_mem (show 0 ≤ ixF n r.1 by omega)
  have hpos : 0 < r.1.length := List.length_pos_of_mem hm
  have hlen : (r.1.erase n).length = r.1.length - 1 := List.length_erase_of_mem hm
  by_cases c2 : 0 ≤ r.2
  · rw [if_pos c2]
    rcases h4 with q | ⟨q1, q2, q3, q4⟩
    · omega
    refine ⟨fun m hm' => ?_, ?_, by simp [hlen]; omega, .inl rfl⟩
    · rcases List.mem_append.1 hm' with q | q
      · exact h1 m (List.mem_of_mem_erase q)
      · simp at q; subst q; exact ⟨q1, q2⟩
    · rw [List.nodup_append]
      refine ⟨h2.erase n, by simp, fun a ha b hb => ?_⟩
      simp at hb; subst hb
      rintro rfl
      exact q3 (List.mem_of_mem_erase ha)
  · rw [if_neg c2]
    rcases h4 with q | ⟨q1, q2, q3, q4⟩
    · exact ⟨fun m hm' => h1 m (List.mem_of_mem_erase hm'), h2.erase n, by simp only; rw [hlen]; omega, .inl q⟩
    · have := q1.1; omega


end Cv
