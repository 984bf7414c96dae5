/-
  The walks: what is over goes.
-/
import Derived.Test.YtfkpgkgjamaoaaaO21
import Derived.Test.YtfkpgkgjamaoaaaProg
import Derived.KernelRfl
set_option linter.unusedVariables false
set_option linter.unusedSimpArgs false
set_option linter.unusedSectionVars false
set_option maxRecDepth 10000
namespace Cv
open Go Go.Proofs
/-! ## what is over goes -/
theorem del_filter {κ ν : Type} [DecidableEq κ] {k : κ} : ∀ {l : List (κ × ν)}, (l.map Prod.fst).Nodup → del l k = l.filter (fun e => decide (e.1 ≠ k))
  | [], _ => rfl
  | (a, x) :: l, h => by
    simp only [List.map_cons, List.nodup_cons] at h
    simp only [del]
    by_cases e : a = k
    · subst e
      rw [if_pos rfl, List.filter_cons, if_neg (by simp)]
      refine (List.filter_eq_self.2 fun q hq => ?_).symm
      simp only [decide_eq_true_eq]
      intro e2
      exact h.1 (by rw [← e2]; exact List.mem_map_of_mem hq)
    · rw [if_neg e, List.filter_cons, if_pos (by simpa using e), del_filter h.2]
section
variable {κ ν : Type} [DecidableEq κ] {l : List (κ × ν)} {rest rs : List κ} {k : κ}
theorem rest_nd (hr : rest.Nodup) (hp : rest.Perm (k :: rs)) : rs.Nodup ∧ k ∉ rs := ⟨(List.nodup_cons.1 (hp.nodup_iff.1 hr)).2, (List.nodup_cons.1 (hp.nodup_iff.1 hr)).1⟩
end
/-! ## no more than may be -/
set_option maxHeartbeats 400000 in
theorem exp1_spec (x y : Int) {b : Nat} {now : Int}  : Spec Try.prog 26 [.int .i64 x, .int .i64 y, .pointer (some ⟨b, 0, none⟩)] [cl b 3 [.int .i64 now]] [] (fun v D' M' => v = .bool (decide (y ≤ now)) ∧ D' = [] ∧ M' = []) := by
  refine Spec.intro (n := 9) Try.func26 rfl rfl (by decide) (Nat.le_of_ble_eq_true rfl) rfl (fun _ => qA) (fun _ => qA) ?_
  intro σ D M
  refine T.seq ?_
  refine T.region ?_
  refine L.assign rfl rfl ?_
  refine L.nil ?_
  refine T.thenN ?_
  refine T.seq ?_
  refine T.region ?_
  refine L.move rfl rfl ?_
  refine L.load rfl sc3 rfl qC ?_
  refine L.leI rfl rfl rfl ?_
  refine L.assign rfl rfl ?_
  refine L.nil ?_
  refine T.thenN ?_
  refine T.ret ?_
  exact T.ret1 rfl rfl ⟨rfl, rfl, rfl⟩ qD qF
end Cv
