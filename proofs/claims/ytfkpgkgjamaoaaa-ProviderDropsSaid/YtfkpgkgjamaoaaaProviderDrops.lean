/-
  PROVED HERE: for all slices l and gone of integers the function caravanlaw21.ProviderDrops returns true. Conditions: none beyond the given statement's own.
-/
import Derived.Test.YtfkpgkgjamaoaaaRows
import Derived.Test.YtfkpgkgjamaoaaaCvLf
import Derived.Test.YtfkpgkgjamaoaaaP21
import Derived.ProofKit
import Derived.OpenShut
import Derived.SizedLaws
import Derived.ChangeMaps5
namespace Go.Proofs.Ytfkpgkgjamaoaaa
set_option linter.unusedVariables false
namespace providerDrops
open Go Go.ChangeShapes Go.WideShapes Go.ChangeAt Go.RowKit
theorem own : ownKnob Try.prog.godebug = none := by kernel_rfl
theorem laidOut : laidOutB Try.prog = true := by kernel_rfl
set_option maxRecDepth 100000 in
theorem lifted (os : Os) (started : os.Started) (H : Type) (enc : TypeId × Value → H) :
    ReturnsInHanded {} Try.checked os 4 .any (Rows.providerDropsSpec.pre6 enc Try.prog Try.f4 Rows.providerDropsRow.domain false) (Rows.providerDropsSpec.post enc Try.prog Try.f4 false true false false) := by
  refine returnsInHanded_of_change_sized (C := Try.checked) own started (by kernel_rfl) Try.func4
    (ChangeSpec.witness6 (enc := enc) (C := Try.checked) false ⟨#[], #[.slice none 0 0, .slice none 0 0], []⟩ 8 (by kernel_rfl) (by kernel_rfl) (by kernel_rfl) (by kernel_rfl)) ?_
  intro W base args ds gs before hval0 hW _ hsz0 _
  have hsz : (DataW.weightsEach Try.prog (Try.f4.params.toList ++ Rows.providerDropsSpec.plain.varTypes Try.prog) (ds ++ gs)).all (· ≤ reachBytes) = true := hsz0
  clear hsz0
  have hval : ∀ (j : Nat) t v, Try.f4.params[j]? = some t → args[j]? = some v → Value.okWide Try.prog W .any base t v := hval0
  have hW' := hW
  obtain ⟨p, q, hA0, hV, rfl, hfz, hnd⟩ := hW
  have hA : DataW.TrodAll enc Try.prog W 0 (fun _ => true) true Try.f4.params.toList args.toList ds p := hA0
  rw [Try.params4] at hA hval hsz
  obtain ⟨v0, vs0, d0, ds0, p0, q0, hargs, rfl, rfl, h0, r0⟩ := trodAll_cons hA
  obtain ⟨v1, vs1, d1, ds1, p1, q1, rfl, rfl, rfl, h1, r1⟩ := trodAll_cons r0
  obtain ⟨rfl, rfl, rfl⟩ := trodAll_nil r1
  obtain rfl : args = #[v0, v1] := by cases args; simp_all
  obtain ⟨rfl, rfl⟩ := trodVars_none hV
  clear hA0 hval0
  simp only [List.append_nil] at hW'
  obtain ⟨s0, len0, cap0, rfl⟩ := okWide_slice Try.underlying29 (hval 0 29 v0 rfl rfl)
  have hk0 := h0
  obtain ⟨fuel0, hf0⟩ := h0
  obtain ⟨xs0, hr0, hl0, hg0, hd0⟩ := Cv.arg_slice (sz := 1) Cv.e3 Cv.g3 Try.underlying29 (by kernel_rfl) (by decide) (fun h => Cv.el3z h) hf0
  have hz0 : len0 * 8 ≤ reachBytes := by
    rcases hd0 with ⟨_, h0⟩ | ⟨els, spr, he, hle⟩
    · simp [h0]
    · have := sized_slice hsz (j := 0) rfl (show _ = some (DataW.slice els spr) from by rw [← he]; rfl) Try.underlying29
      rw [show Try.prog.bytesOf 3 = 8 from by kernel_rfl, hle] at this
      exact Nat.le_trans (Nat.mul_le_mul_right _ (Nat.le_add_right _ _)) this
  obtain ⟨s1, len1, cap1, rfl⟩ := okWide_slice Try.underlying29 (hval 1 29 v1 rfl rfl)
  have hk1 := h1
  obtain ⟨fuel1, hf1⟩ := h1
  obtain ⟨xs1, hr1, hl1, hg1, hd1⟩ := Cv.arg_slice (sz := 1) Cv.e3 Cv.g3 Try.underlying29 (by kernel_rfl) (by decide) (fun h => Cv.el3z h) hf1
  have hz1 : len1 * 8 ≤ reachBytes := by
    rcases hd1 with ⟨_, h0⟩ | ⟨els, spr, he, hle⟩
    · simp [h0]
    · have := sized_slice hsz (j := 1) rfl (show _ = some (DataW.slice els spr) from by rw [← he]; rfl) Try.underlying29
      rw [show Try.prog.bytesOf 3 = 8 from by kernel_rfl, hle] at this
      exact Nat.le_trans (Nat.mul_le_mul_right _ (Nat.le_add_right _ _)) this
  refine (Cv.Spec.law (Cv.drops_law s0 len0 cap0 xs0 hl0 hg0 (by unfold reachBytes at hz0; omega) s1 len1 cap1 xs1 hl1 hg1 (by unfold reachBytes at hz1; omega)) (by intro φ hφ; simp only [List.mem_cons, List.not_mem_nil, or_false] at hφ; rcases hφ with rfl | rfl <;> assumption)).mono fun e W' ⟨he, hb⟩ => ?_
  subst he
  refine ⟨_, rfl, _, _, _, [], p0 ++ (p1 ++ ([])), [], hW', ?_, ?_, ?_, hb.frame _, fun h => by cases h⟩
  · exact trodAll_cons_mk (shut_bool Try.underlying4 _) trodAll_mk0
  · exact (trodAll_cons_mk (Below.trod laidOut (by kernel_rfl) (of_decide_eq_true (by kernel_rfl)) hk0 hb (fun x hx => by have := hW'.lt x (by simp [hx]); simpa using this)) (trodAll_cons_mk (Below.trod laidOut (by kernel_rfl) (of_decide_eq_true (by kernel_rfl)) hk1 hb (fun x hx => by have := hW'.lt x (by simp [hx]); simpa using this)) trodAll_mk0))
  · rfl
theorem over : Rows.providerDropsRow.holds Try.pinned (OpenSpec.ofChange Rows.providerDropsSpec) :=
  OpenClaim.holds_of_wide 4 Try.f4 rfl rfl rfl rfl rfl rfl rfl ⟨rfl, rfl, rfl, rfl, rfl⟩ rfl rfl rfl rfl rfl (by kernel_rfl) Try.func4 (by kernel_rfl)
    (of_decide_eq_true (by kernel_rfl)) (by unfold Func.isWrapper; first | (rw [if_pos (by decide +kernel)]; kernel_rfl) | (rw [if_neg (by decide +kernel)]; exact ⟨rfl, rfl⟩))
    (fun os started H enc _ => lifted os started H enc)
theorem proved : Rows.ProviderDropsSaid := over
end providerDrops
end Go.Proofs.Ytfkpgkgjamaoaaa
