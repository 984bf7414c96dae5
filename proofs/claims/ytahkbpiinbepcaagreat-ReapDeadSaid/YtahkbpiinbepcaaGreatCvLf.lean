/-
  My own library for walks (CvLaw CvArg): separation logic over the calls of the kit; no statement of this seat stands here.
-/
import Derived.Test.YtahkbpiinbepcaaGreatCvLb
import Derived.ProofKit
import Derived.SizedLaws
import Derived.Deep.Slices
set_option linter.unusedVariables false
set_option linter.unusedSimpArgs false
set_option linter.unusedSectionVars false
namespace Cv
open Go Go.RowKit
def old (W : World) : Asn := fun z => ∀ b o, W.heap[b]? = some o → z b = some o
theorem Sat.start (W : World) {D0 : List Asn} (h : ∀ φ ∈ D0, φ (hp W)) : Sat W (D0 ++ [old W]) [] W := by
  refine ⟨⟨rfl, Nat.le_refl _⟩, rfl, rfl, hp W, (fun _ => none), Hp.le.refl _, (fun _ _ e => by cases e), fun _ => .inr rfl, fun φ hφ => ?_, trivial⟩
  rcases List.mem_append.1 hφ with a | a
  · exact ⟨hp W, Hp.le.refl _, h φ a⟩
  · simp at a
    subst a
    exact ⟨hp W, Hp.le.refl _, fun b o e => e⟩
theorem Sat.below {W w : World} {D M : List Asn} (h : Sat W D M w) (k : old W ∈ D) : Below W.heap.size W w := by
  obtain ⟨y, ly, hy⟩ := h.fact k
  have hb : ∀ b, b < W.heap.size → w.heap[b]? = W.heap[b]? := fun b hlt => by
    have e : W.heap[b]? = some (W.heap[b]'hlt) := Array.getElem?_eq_getElem hlt
    rw [e]; exact ly _ _ (hy _ _ e)
  refine ⟨h.os.1, h.tape, h.output, ?_, hb⟩
  rcases Nat.eq_zero_or_pos W.heap.size with e | e
  · omega
  · have := hb (W.heap.size - 1) (by omega)
    rw [Array.getElem?_eq_getElem (show W.heap.size - 1 < W.heap.size by omega)] at this
    have := (Array.getElem?_eq_some_iff.1 this).1
    omega
theorem Spec.law {P : Program} {f : FuncId} {args : List Value} {D0 : List Asn} (h : Spec P f args D0 [] (fun v D' M' => v = .bool true ∧ D' = [] ∧ M' = [])) {W : World} (hD : ∀ φ ∈ D0, φ (hp W)) :
    Calls P f args.toArray W fun e w' => e = .returned (.bool true) ∧ Below W.heap.size W w' :=
  (h.run W [old W] [] W (Sat.start W hD)).mono fun e w' ⟨v, D', M', he, ⟨hv, hd, hm⟩, hs⟩ => by
    subst hv; subst hd
    exact ⟨he, hs.below (by simp)⟩
end Cv
namespace Cv
open Go Go.RowKit Go.ChangeShapes Go.WideShapes Go.ChangeAt

section
variable {H : Type} {enc : TypeId × Value → H} {P : Program} {W : World} {base : Nat} {sp : Nat → Bool} {held : Bool}

theorem wf64 {x : Int} (h : (Lit.int .i64 x).wf = true) : -9223372036854775808 ≤ x ∧ x ≤ 9223372036854775807 := by
  have h1 : IntKind.i64.min = -9223372036854775808 := rfl
  have h2 : IntKind.i64.max = 9223372036854775807 := rfl
  simp only [Lit.wf, Bool.and_eq_true, decide_eq_true_eq, h1, h2] at h
  exact h
theorem arg_slice {α : Type} {t e sz fuel len cap : Nat} {a : Option Addr} {x : DataW H × List MemPlace} (enc1 : α → List Value) (good : α → Prop) (ht : P.underlying t = some (.slice e)) (hc : P.cellsOf e = sz) (hsz0 : sz ≠ 0)
    (hel : ∀ {n : Nat} {cs' : List Value} {y : DataW H × List MemPlace}, DataW.trod enc P W base sp held n e cs' = some y → ∃ z, cs' = enc1 z ∧ good z) (h : DataW.trod enc P W base sp held fuel t (Value.slice a len cap).cells.toList = some x) :
    ∃ xs : List α, rsl sz a len cap (xs.map enc1) (hp W) ∧ xs.length = len ∧ (∀ z ∈ xs, good z) ∧ (x.1 = .nil ∧ len = 0 ∨ ∃ els spare, x.1 = .slice els spare ∧ els.length = len) := by
  rcases Deep.open_slice ht h with ⟨h1, h2⟩ | ⟨ad, len', cap', m, n, D, Pl, h1, hb, hl, hm, hmm, h2, h3⟩
  · simp [Value.cells] at h1
    obtain ⟨rfl, rfl, rfl⟩ := h1
    refine ⟨[], rsl_nil, rfl, by simp, .inl ⟨by rw [h2], rfl⟩⟩
  · simp [Value.cells] at h1
    obtain ⟨rfl, rfl, rfl⟩ := h1
    have hlm : len ≤ m := by rw [hmm]; split <;> omega
    have each : ∀ i, i < len → ∃ z, good z ∧ (enc1 z).length = sz ∧ ∀ j v, (enc1 z)[j]? = some v → W.cell? (ad.add (i * sz + j)) = some v := by
      intro i hi
      obtain ⟨cs', g1, g2⟩ := h3 i (by omega)
      obtain ⟨z, rfl, hz⟩ := hel g2
      rw [hc] at g1
      obtain ⟨_, g4, g5⟩ := World.cells?_some g1
      refine ⟨z, hz, g4, fun j v hv => ?_⟩
      have hj : j < sz := by rw [← g4]; exact (List.getElem?_eq_some_iff.1 hv).1
      rw [← hv, ← g5 j hj]
      congr 1
      unfold Addr.add
      by_cases e1 : i * sz = 0
      · simp [e1]
      · by_cases e2 : j = 0
        · subst e2; simp [e1]
        · simp [e1, e2, show ¬ (i * sz + j = 0) by omega]
          omega
    have mk : ∃ xs : List α, xs.length = len ∧ ∀ i z, xs[i]? = some z → good z ∧ (enc1 z).length = sz ∧ ∀ j v, (enc1 z)[j]? = some v → W.cell? (ad.add (i * sz + j)) = some v := by
      have key : ∀ k, k ≤ len → ∃ xs : List α, xs.length = k ∧ ∀ i z, xs[i]? = some z → good z ∧ (enc1 z).length = sz ∧ ∀ j v, (enc1 z)[j]? = some v → W.cell? (ad.add (i * sz + j)) = some v := by
        intro k
        induction k with
        | zero => exact fun _ => ⟨[], rfl, fun i z hz => by simp at hz⟩
        | succ k ih =>
          intro hk
          obtain ⟨xs, q1, q2⟩ := ih (by omega)
          obtain ⟨z, z1, z2, z3⟩ := each k (by omega)
          refine ⟨xs ++ [z], by simp [q1], fun i y hy => ?_⟩
          by_cases hi : i < xs.length
          · rw [List.getElem?_append_left hi] at hy; exact q2 i y hy
          · rw [List.getElem?_append_right (by omega)] at hy
            have : i = xs.length := by
              have := (List.getElem?_eq_some_iff.1 hy).1
              simp at this; omega
            subst this
            simp at hy
            subst hy
            rw [q1]; exact ⟨z1, z2, z3⟩
      exact key len (Nat.le_refl _)
    obtain ⟨xs, q1, q2⟩ := mk
    refine ⟨xs, ⟨by simpa using q1, hl, ?_, ?_⟩, q1, ?_, .inr ⟨_, _, by rw [h2], by simp⟩⟩
    · intro r hr
      obtain ⟨z, hz, rfl⟩ := List.mem_map.1 hr
      obtain ⟨i, hi, rfl⟩ := List.getElem_of_mem hz
      exact (q2 i _ (List.getElem?_eq_getElem hi)).2.1
    · by_cases h0 : len * sz = 0
      · -- no cells are asked for
        by_cases hlen : len = 0
        · left; rw [List.map_eq_nil_iff]; exact List.length_eq_zero_iff.1 (by omega)
        · have hsz : sz = 0 := by exact (Nat.mul_eq_zero.1 h0).resolve_left hlen
          exact absurd hsz hsz0
      · right
        have hl0 : 0 < len := Nat.pos_of_ne_zero (fun e => h0 (by simp [e]))
        have hs0 : 0 < sz := Nat.pos_of_ne_zero (fun e => h0 (by simp [e]))
        obtain ⟨z, z1, z2, z3⟩ := each 0 hl0
        have hz0 : (enc1 z)[0]? = some ((enc1 z)[0]'(by omega)) := List.getElem?_eq_getElem (by omega)
        have hcell := z3 0 _ hz0
        simp only [Nat.zero_mul, Nat.zero_add] at hcell
        obtain ⟨b, off, spot⟩ := ad
        have : ∃ c t m, W.heap[b]? = some (.cells c t m) ∧ spot = none := by
          unfold World.cell? at hcell
          simp only [Addr.add, if_true] at hcell
          split at hcell
          · rename_i c t m hb'
            cases spot with
            | none => exact ⟨c, t, m, hb', rfl⟩
            | some s => simp at hcell
          · cases hcell
        obtain ⟨c, t', m', hb', rfl⟩ := this
        refine ⟨b, off, c, t', m', rfl, hb', fun i j r v hr hv => ?_⟩
        rw [List.getElem?_map] at hr
        cases hx : xs[i]? with
        | none => rw [hx] at hr; cases hr
        | some z' =>
          rw [hx] at hr
          cases hr
          have := (q2 i z' hx).2.2 j v hv
          rw [add_lit, cell_of hb', ← Nat.add_assoc] at this
          exact this
    · intro z hz
      obtain ⟨i, hi, rfl⟩ := List.getElem_of_mem hz
      exact (q2 i _ (List.getElem?_eq_getElem hi)).1
end
end Cv
