/-
  The walks: functions on slices.
-/
import Derived.Test.YtfkpgkgjamaoaaaCvLc
import Derived.Test.YtfkpgkgjamaoaaaCvLf
import Derived.Test.YtfkpgkgjamaoaaaCvLd
import Derived.Test.YtfkpgkgjamaoaaaProg
import Derived.KernelRfl
set_option linter.unusedVariables false
set_option linter.unusedSimpArgs false
set_option linter.unusedSectionVars false
set_option maxRecDepth 10000
namespace Cv
open Go Go.Proofs
/-! ## plain laws of slices.Index, Contains, Delete -/
def ixF (v : Int) : List Int → Int
  | [] => -1
  | x :: xs => if x = v then 0 else if ixF v xs < 0 then -1 else ixF v xs + 1
theorem ixF_lb (v : Int) : ∀ xs : List Int, -1 ≤ ixF v xs ∧ ixF v xs < xs.length
  | [] => by simp [ixF]
  | x :: xs => by
    have := ixF_lb v xs
    simp only [ixF, List.length_cons]
    split
    · omega
    · split <;> omega
theorem ixF_none {v : Int} : ∀ {xs : List Int}, (∀ y ∈ xs, y ≠ v) → ixF v xs = -1
  | [], _ => rfl
  | x :: xs, h => by rw [ixF, if_neg (h x (by simp)), ixF_none (fun y hy => h y (by simp [hy]))]; rfl
theorem ixF_at {v : Int} : ∀ {xs : List Int} {k : Nat}, (∀ y ∈ xs.take k, y ≠ v) → k < xs.length → v = gd xs k → ixF v xs = k
  | [], k, _, h, _ => by simp at h
  | x :: xs, 0, _, _, h => by rw [ixF, if_pos (by rw [h]; rfl)]; rfl
  | x :: xs, k + 1, h, h1, h2 => by
    have e := ixF_at (v := v) (xs := xs) (k := k) (fun y hy => h y (by simp [hy])) (by simpa using h1) (by rw [h2]; rfl)
    rw [ixF, if_neg (h x (by simp)), e, if_neg (by omega)]; omega
theorem ixF_ge {v : Int} : ∀ {xs : List Int}, decide (0 ≤ ixF v xs) = decide (v ∈ xs)
  | [] => by simp [ixF]
  | x :: xs => by
    have ih := ixF_ge (v := v) (xs := xs)
    rw [ixF]
    by_cases e : x = v
    · subst e; simp
    · rw [if_neg e]
      have e2 : v ≠ x := fun h => e h.symm
      by_cases h0 : ixF v xs < 0
      · rw [if_pos h0]
        have : decide (v ∈ xs) = false := by rw [← ih]; exact decide_eq_false (by omega)
        simp at this; simp [this, e2]
      · rw [if_neg h0]
        have : decide (v ∈ xs) = true := by rw [← ih]; exact decide_eq_true (by omega)
        simp at this; simp [this]; omega
theorem ixF_next {v : Int} {xs : List Int} {k : Nat} (h : ∀ y ∈ xs.take k, y ≠ v) (hk : k < xs.length) (hv : ¬ v = gd xs k) : ∀ y ∈ xs.take (k + 1), y ≠ v := by
  intro y hy
  rw [List.take_add_one, List.mem_append] at hy
  rcases hy with hy | hy
  · exact h y hy
  · rw [gd_get hk] at hy
    simp at hy
    subst hy
    exact fun e => hv e.symm
theorem del_rows {f : Int → List Value} {xs : List Int} {i len : Nat} {zs : List (List Value)} (hl : xs.length = len) (hi : i < len) :
    (((xs.map f).take i ++ (xs.map f).drop (i + 1) ++ (xs.map f).drop (len - 1)).take (len - 1) ++ zs).take (len - 1) = (xs.eraseIdx i).map f := by
  have h1 : ((xs.map f).take i ++ (xs.map f).drop (i + 1)).length = len - 1 := by simp; omega
  rw [List.take_append_of_le_length (by rw [List.length_take, List.length_append, h1]; omega), List.take_take, Nat.min_self, List.take_append_of_le_length (by omega), List.take_of_length_le (by omega), List.eraseIdx_eq_take_drop_succ, List.map_append, List.map_take, List.map_drop]
theorem sc5 : Sc Try.prog 5 := fun w => ⟨by kernel_rfl, by kernel_rfl⟩
theorem kt3 : KeyT Try.prog 3 iK := keyT_int Try.underlying3
theorem zv32 : ∀ w, (zeroValue 32).run Try.prog w = .ok (Value.map none) w := fun w => by kernel_rfl
theorem zv3 : ∀ w, (zeroValue 3).run Try.prog w = .ok (Value.int .i64 0) w := fun w => by kernel_rfl
@[reducible] def e3 : Int → List Value | a => [.int .i64 a]
def g3 : Int → Prop | a => (-9223372036854775808 ≤ a ∧ a ≤ 9223372036854775807)
theorem el3z {H : Type} {enc : TypeId × Value → H} {W : World} {base : Nat} {sp : Nat → Bool} {held : Bool} {n : Nat} {cs : List Value} {y : DataW H × List MemPlace} (h : DataW.trod enc Try.prog W base sp held n 3 cs = some y) : ∃ z, cs = e3 z ∧ g3 z := by
  obtain ⟨n, rfl, -, hw⟩ := DataW.trod_int Try.underlying3 h
  exact ⟨n, rfl, Cv.wf64 hw⟩
theorem one_int {xs : List Int} : ∀ u ∈ (xs.map e3).flatten, u.oneCell' = true := by
  intro u hu
  obtain ⟨r, hr, hu⟩ := List.mem_flatten.1 hu
  obtain ⟨x, _, rfl⟩ := List.mem_map.1 hr
  simp only [e3, List.mem_singleton] at hu
  subst hu; rfl
end Cv
