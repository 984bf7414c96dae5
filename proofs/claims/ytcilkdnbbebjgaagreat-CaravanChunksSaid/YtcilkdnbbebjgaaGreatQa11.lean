/-
  The walks: awake.
-/
import Derived.Test.YtcilkdnbbebjgaaGreatOa11
import Derived.Test.YtcilkdnbbebjgaaGreatP06
import Derived.Test.YtcilkdnbbebjgaaGreatProg
import Derived.KernelRfl
set_option linter.unusedVariables false
set_option linter.unusedSimpArgs false
set_option linter.unusedSectionVars false
set_option maxRecDepth 10000
namespace Cv
open Go Go.Proofs
/-! ## what awake of chapter 11 asks: plain laws -/
theorem cutW_short {tt : List Int} : ∀ (s q : List UInt8), q.length + s.length < 32 → cutW tt ([], q) s = ([], q ++ s)
  | [], q, _ => by show ([], q) = _; simp
  | c :: s, q, h => by
    simp only [List.length_cons] at h
    have e : cutS tt ([], q) c = ([], q ++ [c]) := cutS_no (decide_eq_false (by show ¬ (32 ≤ q.length + 1 ∧ _); omega))
    show cutW tt (cutS tt ([], q) c) s = _
    rw [e, cutW_short s (q ++ [c]) (by rw [List.length_append]; simp only [List.length_singleton]; omega)]
    simp
theorem chnF_short {tt : List Int} {s : List UInt8} (h : s.length < 32) (h0 : s ≠ []) : chnF tt s = [s] := by
  unfold chnF
  rw [cutW_short s [] (by simpa using h), List.nil_append]
  show [] ++ lastC s = [s]
  unfold lastC; rw [if_neg h0]; rfl
theorem grps_one (p : Pt) : grps [p] = [[p]] := by simp [grps, grI, gN, grp]
theorem upP_one (k : Nat) (p : Pt) : upP k [p] = [upt k [p]] := by unfold upP; rw [grps_one]; simp only [List.map_cons, List.map_nil]
theorem upO_one (k : Nat) (p : Pt) : upO k [p] = [uob k [p]] := by unfold upO; rw [grps_one]; simp only [List.map_cons, List.map_nil]
theorem bld_one {s : List UInt8} (h0 : s ≠ []) (h : s.length ≤ 256) : bldM [s] = (upt 1 [lf s], [lo s, uob 1 [lf s]], 0) := by
  have hp := List.length_pos_iff.2 h0
  have hz : sizeI ([s].map lf) [s].length = (s.length : Int) := by show (0 : Int) + (s.length : Int) = _; omega
  refine bld_ok (fun c hc => ?_) (by rw [hz]; omega) (by rw [hz]; omega) ?_
  · have : c = s := by simpa using hc
    subst this
    simp only [badC, not_or]; exact ⟨h0, by omega⟩
  · show lvR (1 + 1) 1 [lf s] [lo s] = _
    rw [lvR_s (.inl rfl)]
    rw [upP_one, upO_one]
    exact lvR_z (f := 1) (k := 2) (ps := [upt 1 [lf s]]) (os := [lo s, uob 1 [lf s]]) (by simp)
end Cv
