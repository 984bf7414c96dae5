/-
  PROVED HERE: for every item of a tree and every slice of strings the function caravanlaw11.InfoOf returns true. Conditions: none beyond the given statement's own.
-/
import Derived.Test.YtcilkdnbbebjgaaGreatRows
import Derived.Test.YtcilkdnbbebjgaaGreatCvLf
import Derived.Test.YtcilkdnbbebjgaaGreatYz11
import Derived.ProofKit
import Derived.OpenShut
import Derived.SizedLaws
import Derived.ChangeMaps5
namespace Go.Proofs.YtcilkdnbbebjgaaGreat
set_option linter.unusedVariables false
namespace infoOf
open Go Go.ChangeShapes Go.WideShapes Go.ChangeAt Go.RowKit
theorem own : ownKnob Tryz.prog.godebug = none := by kernel_rfl
theorem laidOut : laidOutB Tryz.prog = true := by kernel_rfl
set_option maxRecDepth 100000 in
theorem lifted (os : Os) (started : os.Started) (H : Type) (enc : TypeId × Value → H) :
    ReturnsInHanded {} Tryz.checked os 3 .any (Rows.infoOfSpec.pre6 enc Tryz.prog Tryz.f3 Rows.infoOfRow.domain false) (Rows.infoOfSpec.post enc Tryz.prog Tryz.f3 false true false false) := by
  refine returnsInHanded_of_change_sized (C := Tryz.checked) own started (by kernel_rfl) Tryz.func3
    (ChangeSpec.witness6 (enc := enc) (C := Tryz.checked) false ⟨#[], #[.agg #[.int .i64 0, .string ⟨#[]⟩, .slice none 0 0], .slice none 0 0], []⟩ 8 (by kernel_rfl) (by kernel_rfl) (by kernel_rfl) (by kernel_rfl)) ?_
  intro W base args ds gs before hval0 hW _ hsz0 _
  have hsz : (DataW.weightsEach Tryz.prog (Tryz.f3.params.toList ++ Rows.infoOfSpec.plain.varTypes Tryz.prog) (ds ++ gs)).all (· ≤ reachBytes) = true := hsz0
  clear hsz0
  have hval : ∀ (j : Nat) t v, Tryz.f3.params[j]? = some t → args[j]? = some v → Value.okWide Tryz.prog W .any base t v := hval0
  have hW' := hW
  obtain ⟨p, q, hA0, hV, rfl, hfz, hnd⟩ := hW
  have hA : DataW.TrodAll enc Tryz.prog W 0 (fun _ => true) true Tryz.f3.params.toList args.toList ds p := hA0
  rw [Tryz.params3] at hA hval hsz
  obtain ⟨v0, vs0, d0, ds0, p0, q0, hargs, rfl, rfl, h0, r0⟩ := trodAll_cons hA
  obtain ⟨v1, vs1, d1, ds1, p1, q1, rfl, rfl, rfl, h1, r1⟩ := trodAll_cons r0
  obtain ⟨rfl, rfl, rfl⟩ := trodAll_nil r1
  obtain rfl : args = #[v0, v1] := by cases args; simp_all
  obtain ⟨rfl, rfl⟩ := trodVars_none hV
  clear hA0 hval0
  simp only [List.append_nil] at hW'
  obtain ⟨c0, rfl, -⟩ := okWide_struct Tryz.underlying24 (hval 0 24 v0 rfl rfl)
  have hk0 := h0
  obtain ⟨fuel0, hf0⟩ := h0
  obtain ⟨x0, s0, len0, cap0, hc0, hr0, hb0⟩ := Cv.arg_item (Cv.TreeT.mk (P := Tryz.prog) (tK := 3) (tS := 9) (tI := 24) (tL := 22) (tE := 142) Tryz.underlying3 Tryz.underlying9 Tryz.underlying24 Tryz.underlying22 Tryz.underlying142 (by kernel_rfl) (by kernel_rfl) (by kernel_rfl) (by kernel_rfl) (by kernel_rfl) ⟨rfl, rfl, rfl, rfl, rfl, rfl, rfl, rfl, rfl, rfl⟩) hf0
  obtain rfl : c0 = (Cv.iRow x0 s0 len0 cap0).toArray := by rw [← hc0]; simp [Value.cells]
  obtain ⟨s1, len1, cap1, rfl⟩ := okWide_slice Tryz.underlying25 (hval 1 25 v1 rfl rfl)
  have hk1 := h1
  obtain ⟨fuel1, hf1⟩ := h1
  obtain ⟨xs1, hr1, hl1, hg1, hd1⟩ := Cv.arg_slice (sz := 1) Cv.sr Cv.gsr Tryz.underlying25 (by kernel_rfl) (by decide) (fun h => Cv.el_str Tryz.underlying9 h) hf1
  have hz1 : len1 * 16 ≤ reachBytes := by
    rcases hd1 with ⟨_, h0⟩ | ⟨els, spr, he, hle⟩
    · simp [h0]
    · have := sized_slice hsz (j := 1) rfl (show _ = some (DataW.slice els spr) from by rw [← he]; rfl) Tryz.underlying25
      rw [show Tryz.prog.bytesOf 9 = 16 from by kernel_rfl, hle] at this
      exact Nat.le_trans (Nat.mul_le_mul_right _ (Nat.le_add_right _ _)) this
  refine (Cv.Spec.law (Cv.infoOf_spec (x := x0) s0 len0 cap0 (a := s1) (n := len1) (c := cap1) (l := xs1)) (by intro φ hφ; simp only [List.mem_cons, List.not_mem_nil, or_false] at hφ; rcases hφ with rfl | rfl <;> assumption)).mono fun e W' ⟨he, hb⟩ => ?_
  subst he
  refine ⟨_, rfl, _, _, _, [], p0 ++ (p1 ++ ([])), [], hW', ?_, ?_, ?_, hb.frame _, fun h => by cases h⟩
  · exact trodAll_cons_mk (shut_bool Tryz.underlying4 _) trodAll_mk0
  · exact (trodAll_cons_mk (Below.trod laidOut (by kernel_rfl) (of_decide_eq_true (by kernel_rfl)) hk0 hb (fun x hx => by have := hW'.lt x (by simp [hx]); simpa using this)) (trodAll_cons_mk (Below.trod laidOut (by kernel_rfl) (of_decide_eq_true (by kernel_rfl)) hk1 hb (fun x hx => by have := hW'.lt x (by simp [hx]); simpa using this)) trodAll_mk0))
  · rfl
theorem over : Rows.infoOfRow.holds Tryz.pinned (OpenSpec.ofChange Rows.infoOfSpec) :=
  OpenClaim.holds_of_wide 3 Tryz.f3 rfl rfl rfl rfl rfl rfl rfl ⟨rfl, rfl, rfl, rfl, rfl⟩ rfl rfl rfl rfl rfl (by kernel_rfl) Tryz.func3 (by kernel_rfl)
    (of_decide_eq_true (by kernel_rfl)) (by unfold Func.isWrapper; first | (rw [if_pos (by decide +kernel)]; kernel_rfl) | (rw [if_neg (by decide +kernel)]; exact ⟨rfl, rfl⟩))
    (fun os started H enc _ => lifted os started H enc)
theorem proved : Rows.InfoOfSaid := over
end infoOf
end Go.Proofs.YtcilkdnbbebjgaaGreat
