/-
  PROVED HERE: for all slices of integers held and asked and every integer extra the function caravanlaw15.ReapDead returns true. Conditions: none beyond the given statement's own.
-/
import Derived.Test.YtahkbpiinbepcaaGreatRows
import Derived.Test.YtahkbpiinbepcaaGreatCvLf
import Derived.Test.YtahkbpiinbepcaaGreatIK14
import Derived.ProofKit
import Derived.OpenShut
import Derived.SizedLaws
import Derived.ChangeMaps5
namespace Go.Proofs.YtahkbpiinbepcaaGreat
set_option linter.unusedVariables false
namespace reapDead
open Go Go.ChangeShapes Go.WideShapes Go.ChangeAt Go.RowKit
theorem own : ownKnob Tryz.prog.godebug = none := by kernel_rfl
theorem laidOut : laidOutB Tryz.prog = true := by kernel_rfl
set_option maxRecDepth 100000 in
theorem lifted (os : Os) (started : os.Started) (H : Type) (enc : TypeId × Value → H) :
    ReturnsInHanded {} Tryz.checked os 7 .any (Rows.reapDeadSpec.pre6 enc Tryz.prog Tryz.f7 Rows.reapDeadRow.domain false) (Rows.reapDeadSpec.post enc Tryz.prog Tryz.f7 false true false false) := by
  refine returnsInHanded_of_change_sized (C := Tryz.checked) own started (by kernel_rfl) Tryz.func7
    (ChangeSpec.witness6 (enc := enc) (C := Tryz.checked) false ⟨#[], #[.slice none 0 0, .slice none 0 0, .int .i64 0], []⟩ 8 (by kernel_rfl) (by kernel_rfl) (by kernel_rfl) (by kernel_rfl)) ?_
  intro W base args ds gs before hval0 hW _ hsz0 _
  have hsz : (DataW.weightsEach Tryz.prog (Tryz.f7.params.toList ++ Rows.reapDeadSpec.plain.varTypes Tryz.prog) (ds ++ gs)).all (· ≤ reachBytes) = true := hsz0
  clear hsz0
  have hval : ∀ (j : Nat) t v, Tryz.f7.params[j]? = some t → args[j]? = some v → Value.okWide Tryz.prog W .any base t v := hval0
  have hW' := hW
  obtain ⟨p, q, hA0, hV, rfl, hfz, hnd⟩ := hW
  have hA : DataW.TrodAll enc Tryz.prog W 0 (fun _ => true) true Tryz.f7.params.toList args.toList ds p := hA0
  rw [Tryz.params7] at hA hval hsz
  obtain ⟨v0, vs0, d0, ds0, p0, q0, hargs, rfl, rfl, h0, r0⟩ := trodAll_cons hA
  obtain ⟨v1, vs1, d1, ds1, p1, q1, rfl, rfl, rfl, h1, r1⟩ := trodAll_cons r0
  obtain ⟨v2, vs2, d2, ds2, p2, q2, rfl, rfl, rfl, h2, r2⟩ := trodAll_cons r1
  obtain ⟨rfl, rfl, rfl⟩ := trodAll_nil r2
  obtain rfl : args = #[v0, v1, v2] := by cases args; simp_all
  obtain ⟨rfl, rfl⟩ := trodVars_none hV
  clear hA0 hval0
  simp only [List.append_nil] at hW'
  obtain ⟨s0, len0, cap0, rfl⟩ := okWide_slice Tryz.underlying22 (hval 0 22 v0 rfl rfl)
  have hk0 := h0
  obtain ⟨fuel0, hf0⟩ := h0
  obtain ⟨xs0, hr0, hl0, hg0, hd0⟩ := Cv.arg_slice (sz := 1) Cv.e3 Cv.g3 Tryz.underlying22 (by kernel_rfl) (by decide) (fun h => Cv.el3z h) hf0
  have hz0 : len0 * 8 ≤ reachBytes := by
    rcases hd0 with ⟨_, h0⟩ | ⟨els, spr, he, hle⟩
    · simp [h0]
    · have := sized_slice hsz (j := 0) rfl (show _ = some (DataW.slice els spr) from by rw [← he]; rfl) Tryz.underlying22
      rw [show Tryz.prog.bytesOf 3 = 8 from by kernel_rfl, hle] at this
      exact Nat.le_trans (Nat.mul_le_mul_right _ (Nat.le_add_right _ _)) this
  obtain ⟨s1, len1, cap1, rfl⟩ := okWide_slice Tryz.underlying22 (hval 1 22 v1 rfl rfl)
  have hk1 := h1
  obtain ⟨fuel1, hf1⟩ := h1
  obtain ⟨xs1, hr1, hl1, hg1, hd1⟩ := Cv.arg_slice (sz := 1) Cv.e3 Cv.g3 Tryz.underlying22 (by kernel_rfl) (by decide) (fun h => Cv.el3z h) hf1
  have hz1 : len1 * 8 ≤ reachBytes := by
    rcases hd1 with ⟨_, h0⟩ | ⟨els, spr, he, hle⟩
    · simp [h0]
    · have := sized_slice hsz (j := 1) rfl (show _ = some (DataW.slice els spr) from by rw [← he]; rfl) Tryz.underlying22
      rw [show Tryz.prog.bytesOf 3 = 8 from by kernel_rfl, hle] at this
      exact Nat.le_trans (Nat.mul_le_mul_right _ (Nat.le_add_right _ _)) this
  obtain ⟨a2, rfl, rfl, rfl, w2⟩ := open_int Tryz.underlying3 (hval 2 3 v2 rfl rfl) h2
  refine (Cv.Spec.law (Cv.dead_law (ha := s0) (hn := len0) (hc := cap0) (hd := xs0) (aa := s1) (an := len1) (ac := cap1) (qd := xs1) (e := a2) hg0 hg1 (by unfold reachBytes at hz0; omega) (by unfold reachBytes at hz1; omega)) (by intro φ hφ; simp only [List.mem_cons, List.not_mem_nil, or_false] at hφ; rcases hφ with rfl | rfl <;> assumption)).mono fun e W' ⟨he, hb⟩ => ?_
  subst he
  refine ⟨_, rfl, _, _, _, [], p0 ++ (p1 ++ ([] ++ ([]))), [], hW', ?_, ?_, ?_, hb.frame _, fun h => by cases h⟩
  · exact trodAll_cons_mk (shut_bool Tryz.underlying4 _) trodAll_mk0
  · exact (trodAll_cons_mk (Below.trod laidOut (by kernel_rfl) (of_decide_eq_true (by kernel_rfl)) hk0 hb (fun x hx => by have := hW'.lt x (by simp [hx]); simpa using this)) (trodAll_cons_mk (Below.trod laidOut (by kernel_rfl) (of_decide_eq_true (by kernel_rfl)) hk1 hb (fun x hx => by have := hW'.lt x (by simp [hx]); simpa using this)) (trodAll_cons_mk (shut_int Tryz.underlying3 w2) trodAll_mk0)))
  · rfl
theorem over : Rows.reapDeadRow.holds Tryz.pinned (OpenSpec.ofChange Rows.reapDeadSpec) :=
  OpenClaim.holds_of_wide 7 Tryz.f7 rfl rfl rfl rfl rfl rfl rfl ⟨rfl, rfl, rfl, rfl, rfl⟩ rfl rfl rfl rfl rfl (by kernel_rfl) Tryz.func7 (by kernel_rfl)
    (of_decide_eq_true (by kernel_rfl)) (by unfold Func.isWrapper; first | (rw [if_pos (by decide +kernel)]; kernel_rfl) | (rw [if_neg (by decide +kernel)]; exact ⟨rfl, rfl⟩))
    (fun os started H enc _ => lifted os started H enc)
theorem proved : Rows.ReapDeadSaid := over
end reapDead
end Go.Proofs.YtahkbpiinbepcaaGreat
