/-
  PROVED HERE: for all three items of trees the function caravanlaw05.TreeOrder returns true. Conditions: none beyond the given statement's own.
-/
import Derived.Test.YtdajpfbgikgkeaaRows
import Derived.Test.YtdajpfbgikgkeaaCvArg
import Derived.Test.YtdajpfbgikgkeaaQ05
import Derived.Test.YtdajpfbgikgkeaaCvLaw
import Derived.ProofKit
import Derived.OpenShut
import Derived.SizedLaws
import Derived.ChangeMaps5
namespace Go.Proofs.Ytdajpfbgikgkeaa
set_option linter.unusedVariables false
namespace treeOrder
open Go Go.ChangeShapes Go.WideShapes Go.ChangeAt Go.RowKit
theorem own : ownKnob Try.prog.godebug = none := by kernel_rfl
theorem laidOut : laidOutB Try.prog = true := by kernel_rfl
set_option maxRecDepth 100000 in
theorem lifted (os : Os) (started : os.Started) (H : Type) (enc : TypeId × Value → H) :
    ReturnsInHanded {} Try.checked os 6 .any (Rows.treeOrderSpec.pre6 enc Try.prog Try.f6 Rows.treeOrderRow.domain false) (Rows.treeOrderSpec.post enc Try.prog Try.f6 false true false false) := by
  refine returnsInHanded_of_change_sized (C := Try.checked) own started (by kernel_rfl) Try.func6
    (ChangeSpec.witness6 (enc := enc) (C := Try.checked) false ⟨#[], #[.agg #[.int .i64 0, .string ⟨#[]⟩, .slice none 0 0], .agg #[.int .i64 0, .string ⟨#[]⟩, .slice none 0 0], .agg #[.int .i64 0, .string ⟨#[]⟩, .slice none 0 0]], []⟩ 8 (by kernel_rfl) (by kernel_rfl) (by kernel_rfl) (by kernel_rfl)) ?_
  intro W base args ds gs before hval0 hW _ hsz0 _
  have hsz : (DataW.weightsEach Try.prog (Try.f6.params.toList ++ Rows.treeOrderSpec.plain.varTypes Try.prog) (ds ++ gs)).all (· ≤ reachBytes) = true := hsz0
  clear hsz0
  have hval : ∀ (j : Nat) t v, Try.f6.params[j]? = some t → args[j]? = some v → Value.okWide Try.prog W .any base t v := hval0
  have hW' := hW
  obtain ⟨p, q, hA0, hV, rfl, hfz, hnd⟩ := hW
  have hA : DataW.TrodAll enc Try.prog W 0 (fun _ => true) true Try.f6.params.toList args.toList ds p := hA0
  rw [Try.params6] at hA hval hsz
  obtain ⟨v0, vs0, d0, ds0, p0, q0, hargs, rfl, rfl, h0, r0⟩ := trodAll_cons hA
  obtain ⟨v1, vs1, d1, ds1, p1, q1, rfl, rfl, rfl, h1, r1⟩ := trodAll_cons r0
  obtain ⟨v2, vs2, d2, ds2, p2, q2, rfl, rfl, rfl, h2, r2⟩ := trodAll_cons r1
  obtain ⟨rfl, rfl, rfl⟩ := trodAll_nil r2
  obtain rfl : args = #[v0, v1, v2] := by cases args; simp_all
  obtain ⟨rfl, rfl⟩ := trodVars_none hV
  clear hA0 hval0
  simp only [List.append_nil] at hW'
  obtain ⟨c0, rfl, -⟩ := okWide_struct Try.underlying24 (hval 0 24 v0 rfl rfl)
  have hk0 := h0
  obtain ⟨fuel0, hf0⟩ := h0
  obtain ⟨x0, s0, len0, cap0, hc0, hr0, hb0⟩ := Cv.arg_item (Cv.TreeT.mk (P := Try.prog) (tK := 3) (tS := 9) (tI := 24) (tL := 22) (tE := 36) Try.underlying3 Try.underlying9 Try.underlying24 Try.underlying22 Try.underlying36 (by kernel_rfl) (by kernel_rfl) (by kernel_rfl) (by kernel_rfl) (by kernel_rfl) ⟨rfl, rfl, rfl, rfl, rfl, rfl, rfl, rfl, rfl, rfl⟩) hf0
  obtain rfl : c0 = (Cv.iRow x0 s0 len0 cap0).toArray := by rw [← hc0]; simp [Value.cells]
  obtain ⟨c1, rfl, -⟩ := okWide_struct Try.underlying24 (hval 1 24 v1 rfl rfl)
  have hk1 := h1
  obtain ⟨fuel1, hf1⟩ := h1
  obtain ⟨x1, s1, len1, cap1, hc1, hr1, hb1⟩ := Cv.arg_item (Cv.TreeT.mk (P := Try.prog) (tK := 3) (tS := 9) (tI := 24) (tL := 22) (tE := 36) Try.underlying3 Try.underlying9 Try.underlying24 Try.underlying22 Try.underlying36 (by kernel_rfl) (by kernel_rfl) (by kernel_rfl) (by kernel_rfl) (by kernel_rfl) ⟨rfl, rfl, rfl, rfl, rfl, rfl, rfl, rfl, rfl, rfl⟩) hf1
  obtain rfl : c1 = (Cv.iRow x1 s1 len1 cap1).toArray := by rw [← hc1]; simp [Value.cells]
  obtain ⟨c2, rfl, -⟩ := okWide_struct Try.underlying24 (hval 2 24 v2 rfl rfl)
  have hk2 := h2
  obtain ⟨fuel2, hf2⟩ := h2
  obtain ⟨x2, s2, len2, cap2, hc2, hr2, hb2⟩ := Cv.arg_item (Cv.TreeT.mk (P := Try.prog) (tK := 3) (tS := 9) (tI := 24) (tL := 22) (tE := 36) Try.underlying3 Try.underlying9 Try.underlying24 Try.underlying22 Try.underlying36 (by kernel_rfl) (by kernel_rfl) (by kernel_rfl) (by kernel_rfl) (by kernel_rfl) ⟨rfl, rfl, rfl, rfl, rfl, rfl, rfl, rfl, rfl, rfl⟩) hf2
  obtain rfl : c2 = (Cv.iRow x2 s2 len2 cap2).toArray := by rw [← hc2]; simp [Value.cells]
  refine (Cv.Spec.law (Cv.treeOrder_spec (x := x0) (y := x1) (z := x2) s0 len0 cap0 s1 len1 cap1 s2 len2 cap2) (by intro φ hφ; simp only [List.mem_cons, List.not_mem_nil, or_false] at hφ; rcases hφ with rfl | rfl | rfl <;> assumption)).mono fun e W' ⟨he, hb⟩ => ?_
  subst he
  refine ⟨_, rfl, _, _, _, [], p0 ++ (p1 ++ (p2 ++ ([]))), [], hW', ?_, ?_, ?_, hb.frame _, fun h => by cases h⟩
  · exact trodAll_cons_mk (shut_bool Try.underlying4 _) trodAll_mk0
  · exact (trodAll_cons_mk (Below.trod laidOut (by kernel_rfl) (of_decide_eq_true (by kernel_rfl)) hk0 hb (fun x hx => by have := hW'.lt x (by simp [hx]); simpa using this)) (trodAll_cons_mk (Below.trod laidOut (by kernel_rfl) (of_decide_eq_true (by kernel_rfl)) hk1 hb (fun x hx => by have := hW'.lt x (by simp [hx]); simpa using this)) (trodAll_cons_mk (Below.trod laidOut (by kernel_rfl) (of_decide_eq_true (by kernel_rfl)) hk2 hb (fun x hx => by have := hW'.lt x (by simp [hx]); simpa using this)) trodAll_mk0)))
  · rfl
theorem over : Rows.treeOrderRow.holds Try.pinned (OpenSpec.ofChange Rows.treeOrderSpec) :=
  OpenClaim.holds_of_wide 6 Try.f6 rfl rfl rfl rfl rfl rfl rfl ⟨rfl, rfl, rfl, rfl, rfl⟩ rfl rfl rfl rfl rfl (by kernel_rfl) Try.func6 (by kernel_rfl)
    (of_decide_eq_true (by kernel_rfl)) (by unfold Func.isWrapper; first | (rw [if_pos (by decide +kernel)]; kernel_rfl) | (rw [if_neg (by decide +kernel)]; exact ⟨rfl, rfl⟩))
    (fun os started H enc _ => lifted os started H enc)
theorem proved : Rows.TreeOrderSaid := over
end treeOrder
end Go.Proofs.Ytdajpfbgikgkeaa
