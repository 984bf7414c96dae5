/-
  The walks: the law on forged objects.
-/
import Derived.Test.YtahkbpiinbepcaaGreatYc15
import Derived.Test.YtahkbpiinbepcaaGreatTT15
import Derived.Test.YtahkbpiinbepcaaGreatM05
import Derived.Test.YtahkbpiinbepcaaGreatProg
import Derived.KernelRfl
set_option linter.unusedVariables false
set_option linter.unusedSimpArgs false
set_option linter.unusedSectionVars false
set_option maxRecDepth 10000
namespace Cv
open Go Go.Proofs
/-! ## how many steps a path takes that has nodes of two levels -/
theorem cst_1 {os : List Ob} {lv : Int} {p : Pt} (h : goF os p.1 = none ∨ lv = 0 ∨ ∃ o, goF os p.1 = some o ∧ (o.1 ≠ 2 ∨ (nodR o.2.2).2.2 ≠ 0 ∨ (0 < lv ∧ (((nodR o.2.2).1 : Nat) : Int) ≠ lv))) : cst os lv p = 1 := by
  show csF os (9 + 1) lv p = 1
  rw [csF]
  cases e : goF os p.1 with
  | none => rfl
  | some o =>
    dsimp only
    rw [if_pos]
    rcases h with h | h | ⟨q, g, h⟩
    · rw [e] at h; cases h
    · exact .inl h
    · rw [e] at g; injection g with g; subst g
      rcases h with h | h | h
      · exact .inr (.inl h)
      · exact .inr (.inr (.inl h))
      · exact .inr (.inr (.inr h))
theorem sum_le {f : Pt → Nat} {B : Nat} : ∀ {l : List Pt}, (∀ p ∈ l, f p ≤ B) → (l.map f).sum ≤ l.length * B
  | [], _ => by simp
  | p :: l, h => by
    have a := h p (List.mem_cons_self ..)
    have b := sum_le fun q hq => h q (List.mem_cons_of_mem _ hq)
    rw [List.map_cons, List.sum_cons, List.length_cons, Nat.add_mul, Nat.one_mul]; omega
def Two (os : List Ob) (a b : Nat) : Prop := ∀ o ∈ os, o.1 = 2 → (nodR o.2.2).2.2 = 0 → (nodR o.2.2).1 = a ∨ (nodR o.2.2).1 = b
theorem cst_step {os : List Ob} {lv : Int} {p : Pt} {B : Nat} (hl : -1 ≤ lv ∧ lv ≤ 8) (h : ∀ o, goF os p.1 = some o → o.1 = 2 → (nodR o.2.2).2.2 = 0 → lv ≠ 0 → (0 < lv → (((nodR o.2.2).1 : Nat) : Int) = lv) → ∀ q ∈ (nodR o.2.2).2.1, cst os ((((nodR o.2.2).1 : Nat) : Int) - 1) q ≤ B) : cst os lv p ≤ 1 + 8 * B := by
  cases e : goF os p.1 with
  | none => rw [cst_1 (.inl e)]; omega
  | some o =>
    by_cases c0 : lv = 0
    · rw [cst_1 (.inr (.inl c0))]; omega
    · by_cases c1 : o.1 = 2
      · by_cases c2 : (nodR o.2.2).2.2 = 0
        · by_cases c3 : 0 < lv ∧ (((nodR o.2.2).1 : Nat) : Int) ≠ lv
          · rw [cst_1 (.inr (.inr ⟨o, e, .inr (.inr c3)⟩))]; omega
          · rw [cst_n hl e c0 c1 rfl c2 c3]
            have a := sum_le (h o e c1 c2 c0 fun q => Classical.byContradiction fun k => c3 ⟨q, k⟩)
            have b := nodR_len o.2.2
            have : (nodR o.2.2).2.1.length * B ≤ 8 * B := Nat.mul_le_mul_right _ b
            omega
        · rw [cst_1 (.inr (.inr ⟨o, e, .inr (.inl c2)⟩))]; omega
      · rw [cst_1 (.inr (.inr ⟨o, e, .inl c1⟩))]; omega
theorem cst_73' {os : List Ob} {a b : Nat} (hab : a ≤ b) (h : Two os a b) (p : Pt) : cst os (-1) p ≤ 73 := by
  have z : ∀ (lv : Int) (q : Pt), 0 ≤ lv → lv ≤ 8 → lv ≠ a → lv ≠ b → cst os lv q = 1 := fun lv q h0 h8 ha hb => by
    cases e : goF os q.1 with
    | none => exact cst_1 (.inl e)
    | some o =>
      by_cases c0 : lv = 0
      · exact cst_1 (.inr (.inl c0))
      · by_cases c1 : o.1 = 2
        · by_cases c2 : (nodR o.2.2).2.2 = 0
          · have := h o (goF_mem e).1 c1 c2
            exact cst_1 (.inr (.inr ⟨o, e, .inr (.inr ⟨by omega, by omega⟩)⟩))
          · exact cst_1 (.inr (.inr ⟨o, e, .inr (.inl c2)⟩))
        · exact cst_1 (.inr (.inr ⟨o, e, .inl c1⟩))
  have y : ∀ (lv : Int) (q : Pt), 0 ≤ lv → lv ≤ 8 → lv < b → cst os lv q ≤ 9 := fun lv q h0 h8 hb => by
    refine cst_step (B := 1) (by omega) fun o e c1 c2 c0 c3 r hr => ?_
    have hk := chkN_0 (nodR_ok c2)
    have t := h o (goF_mem e).1 c1 c2
    have c4 := c3 (by omega)
    rw [z _ r (by omega) (by omega) (by omega) (by omega)]; omega
  refine cst_step (B := 9) (by decide) fun o e c1 c2 c0 c3 r hr => ?_
  have hk := chkN_0 (nodR_ok c2)
  have t := h o (goF_mem e).1 c1 c2
  exact y _ r (by omega) (by omega) (by omega)
theorem cst_73 {os : List Ob} {a b : Nat} (h : Two os a b) (p : Pt) : cst os (-1) p ≤ 73 := by
  rcases Nat.le_total a b with c | c
  · exact cst_73' c h p
  · exact cst_73' c (fun o ho h1 h2 => (h o ho h1 h2).symm) p
/-! ## forged objects -/
theorem nnd_le (os : List Ob) : nnd os ≤ os.length := List.length_filter_le _ _
end Cv
