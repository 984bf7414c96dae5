/-
  The walks: the reference of names.
-/
import Derived.Test.YtcilkdnbbebjgaaGreatQa11
import Derived.Test.YtcilkdnbbebjgaaGreatG06
import Derived.Test.YtcilkdnbbebjgaaGreatProg
import Derived.KernelRfl
set_option linter.unusedVariables false
set_option linter.unusedSimpArgs false
set_option linter.unusedSectionVars false
set_option maxRecDepth 10000
namespace Cv
open Go Go.Proofs
/-! ## the reference's reader of names: plain -/
def idsS : Nat → Bl → List (List UInt8) × Bl
  | 0, b => ([], b)
  | n + 1, b => if b.err ≠ 0 then ([], b) else ((bytB b 32).1 :: (idsS n (bytB b 32).2).1, (idsS n (bytB b 32).2).2)
theorem idsL_err {n : Nat} {b : Bl} (h : b.err ≠ 0) : (idsL n b).2 = b := by
  cases n with
  | zero => rfl
  | succ n => rw [idsL, if_pos h]
theorem ids_eq : ∀ (n : Nat) (b : Bl), (idsS n b).2 = (idsL n b).2 ∧ ((idsL n b).2.err = 0 → (idsS n b).1 = (idsL n b).1.map (·.1))
  | 0, _ => ⟨rfl, fun _ => rfl⟩
  | n + 1, b => by
    rw [idsS, idsL]
    by_cases h : b.err ≠ 0
    · rw [if_pos h, if_pos h]; exact ⟨rfl, fun _ => rfl⟩
    · rw [if_neg h, if_neg h]
      have e : (idR b).2 = (bytB b 32).2 := rfl
      obtain ⟨h1, h2⟩ := ids_eq n (bytB b 32).2
      rw [← e] at h1 h2 ⊢
      refine ⟨h1, fun h3 => ?_⟩
      have h4 : (idR b).2.err = 0 := Decidable.byContradiction fun k => by
        have := idsL_err (n := n) k
        rw [this] at h3; exact k h3
      show (bytB b 32).1 :: (idsS n (idR b).2).1 = _
      rw [h2 h3, List.map_cons, id_val h4]
structure IdsJ (b : Bl) (n i : Nat) (q : Bl) (acc : List (List UInt8)) : Prop where
  r1 : (idsS n b).1 = acc ++ (idsS (n - i) q).1
  r2 : (idsS n b).2 = (idsS (n - i) q).2
  le : i ≤ n ∧ acc.length = i
theorem IdsJ.start {b : Bl} {n : Nat} : IdsJ b n 0 b [] := ⟨rfl, rfl, Nat.zero_le _, rfl⟩
theorem IdsJ.next {b q : Bl} {n i : Nat} {acc : List (List UInt8)} (h : IdsJ b n i q acc) (hi : i < n) (e : q.err = 0) : IdsJ b n (i + 1) (bytB q 32).2 (acc ++ [(bytB q 32).1]) := by
  obtain ⟨h1, h2, h3⟩ := h
  rw [show n - i = (n - (i + 1)) + 1 by omega, idsS, if_neg (fun k => k e)] at h1 h2
  exact ⟨by rw [h1]; simp, h2, by omega, by rw [List.length_append, h3.2]; rfl⟩
theorem IdsJ.stop {b q : Bl} {n i : Nat} {acc : List (List UInt8)} (h : IdsJ b n i q acc) (e : ¬ i < n ∨ q.err ≠ 0) : idsS n b = (acc, q) := by
  obtain ⟨h1, h2, h3⟩ := h
  have : idsS (n - i) q = ([], q) := by
    rcases Nat.lt_or_ge i n with k | k
    · rw [show n - i = (n - (i + 1)) + 1 by omega, idsS, if_pos (by rcases e with e | e <;> first | exact absurd k e | exact e)]
    · rw [show n - i = 0 by omega]; rfl
  rw [this] at h1 h2
  exact Prod.ext (by rw [h1]; simp) h2
theorem idsF_s (b : Bl) (top : Nat) : (idsF b top).2 = (idsS (intR b top).1 (intR b top).2).2 ∧ (idsF b top).1.map (·.1) = if (idsS (intR b top).1 (intR b top).2).2.err ≠ 0 then [] else (idsS (intR b top).1 (intR b top).2).1 := by
  obtain ⟨h1, h2⟩ := ids_eq (intR b top).1 (intR b top).2
  refine ⟨h1.symm, ?_⟩
  rw [h1]
  show (if _ then _ else _ : List ID32).map _ = _
  split
  · rfl
  · rename_i h; exact (h2 (Decidable.not_not.1 h)).symm

set_option maxHeartbeats 400000 in
theorem rids_spec {b : Bl} {top : Nat} (ht : top ≤ 1000000) : Spec Tryz.prog 55 [.agg (blR b).toArray, .int .i64 (top : Int)] [] [] (fun v D' M' => ∃ (a' : Option Addr) (n' c' : Nat), v = .tuple #[.agg (blR (idsF b top).2).toArray, .slice a' n' c'] ∧ ((idsF b top).1.length = n') ∧ D' = [] ∧ M' = [own 1 9 a' n' c' (((idsF b top).1.map (·.1)).map ys)]) := by
  refine Spec.intro (n := 44) Tryz.func55 rfl rfl (by decide) (Nat.le_of_ble_eq_true rfl) rfl (fun _ => qA) (fun _ => qA) ?_
  intro σ D M
  have hle := int_le b top
  obtain ⟨m, hm⟩ : ∃ m, m = (intR b top).1 := ⟨_, rfl⟩
  obtain ⟨z, hz⟩ : ∃ z, z = (intR b top).2 := ⟨_, rfl⟩
  obtain ⟨hF1, hF2⟩ := idsF_s b top
  rw [← hm, ← hz] at hF1 hF2
  rw [← hm] at hle
  refine T.seq ?_
  refine T.region ?_
  refine L.box rfl rfl rfl (fun b2 => ?_)
  refine L.alloc rfl ze105 (fun b4 => ?_)
  refine L.assign rfl rfl ?_
  refine L.nil ?_
  refine T.thenN ?_
  refine T.seq ?_
  refine T.region ?_
  refine L.loadA rfl ag105 rfl qN ?_
  refine L.move rfl rfl ?_
  refine L.callF rfl (evs.cons rfl <| evs.cons rfl <| evs.nil) qD qS (rint_spec (b := b) (top := top) (by omega)) (by rintro u D1 M1 ⟨rfl, rfl, rfl⟩; exact ⟨rfl, _, qA, qF⟩) ?_
  rw [← hm, ← hz]
  refine L.move rfl rfl ?_
  refine L.extract rfl rfl rfl ?_
  refine L.extract rfl rfl rfl ?_
  refine L.storeA ag105 rfl rfl qL qO qU qW ?_
  refine L.assign rfl rfl ?_
  refine L.nil ?_
  refine T.thenN ?_
  refine T.seq ?_
  refine T.region ?_
  refine L.buildSlice rfl bs25 (by decide) (BP.doneE (out := []) rfl) (fun b17 => ?_)
  refine L.toOwn (len := 0) qP (rows := ([] : List (List UInt8)).map ys) (sz := 1) (by rfl) rfl (by simp) ?_
  refine L.assign rfl rfl ?_
  refine L.nil ?_
  refine T.thenN ?_
  refine T.seq ?_
  refine T.seq ?_
  refine T.region ?_
  refine L.assign rfl rfl ?_
  refine L.nil ?_
  refine T.thenN ?_
  refine T.block ?_
  refine T.loop (fun K' D' M' μ => ∃ (i n7 c7 : Nat) (a7 : Option Addr) (q : Bl) (acc : List (List UInt8)), (IdsJ z m i q acc ∧ acc.length = n7) ∧ K' = [(6, .int .i64 (m : Int)), (8, .int .i64 (i : Int)), (7, .slice a7 n7 c7)] ∧ D' = [] ∧ M' = [cl b2 105 (blR (q)), own 1 9 a7 n7 c7 ((acc).map ys)] ∧ μ = m - i) (.cons (t := 2) rfl <| .cons (t := 4) rfl <| .cons (t := 6) rfl <| SubK.nil _) (⟨0, 0, 0, _, z, [], ⟨.start, rfl⟩, rfl, rfl, rfl, rfl⟩) (.cons (t := 6) rfl <| .cons (t := 8) rfl <| .cons (t := 7) rfl <| SubK.nil _) qD qS ?_
  rintro K1 D1 M1 m1 ⟨i, n7, c7, a7, q, acc, ⟨hI, hac⟩, rfl, rfl, rfl, rfl⟩
  refine T.norm3 qA qA qA ?_
  have hIl := hI.le
  refine T.seq ?_
  refine T.seq ?_
  refine T.region ?_
  refine L.move rfl rfl ?_
  refine L.move rfl rfl ?_
  refine L.ltI rfl rfl rfl ?_
  refine L.move rfl rfl ?_
  refine L.part (t := 21) rfl (fun h1 => ?_) (fun h1 => ?_)
  · try simp only [decide_eq_true_eq, decide_eq_false_iff_not, Bool.not_eq_true', Bool.not_eq_false', Bool.and_eq_true, Bool.or_eq_true] at h1
    refine L.guardT (dj := 21) rfl rfl rfl ?_
    first | refine L.field0 rfl fo105_1 rfl ?_ | refine L.field rfl fo105_1 rfl ?_
    refine L.guardT (dj := 21) rfl rfl rfl ?_
    refine L.load rfl sc3 rfl qC ?_
    refine L.guardT (dj := 21) rfl rfl rfl ?_
    refine L.eqI rfl rfl rfl ?_
    refine L.pickT rfl rfl rfl ?_
    refine L.nil ?_
    refine T.thenN ?_
    refine T.cond rfl (fun h25 => ?_) (fun h25 => ?_)
    · try simp only [decide_eq_true_eq, decide_eq_false_iff_not, Bool.not_eq_true', Bool.not_eq_false', Bool.and_eq_true, Bool.or_eq_true] at h25
      have hqe : q.err = 0 := h25
      refine T.skip ?_
      refine T.thenN ?_
      refine T.seq ?_
      refine T.block ?_
      refine T.seq ?_
      refine T.region ?_
      refine L.loadA rfl ag105 rfl qN ?_
      refine L.callF rfl (evs.cons rfl <| evs.cons rfl <| evs.nil) qD qS (rbytes_spec (b := q) (n := 32) (by decide)) (by rintro u D1 M1 ⟨rfl, rfl, rfl⟩; exact ⟨rfl, _, qA, qF⟩) ?_
      refine L.move rfl rfl ?_
      refine L.extract rfl rfl rfl ?_
      refine L.extract rfl rfl rfl ?_
      refine L.alloc rfl ze105 (fun b9 => ?_)
      refine L.storeA ag105 rfl rfl qL qO qU qW ?_
      refine L.assign rfl rfl ?_
      refine L.nil ?_
      refine T.thenN ?_
      refine T.seq ?_
      refine T.region ?_
      refine L.loadA rfl ag105 rfl qN ?_
      refine L.storeA ag105 rfl rfl qL qO qU qW ?_
      refine L.nil ?_
      refine T.thenN ?_
      refine T.region ?_
      refine L.move rfl rfl ?_
      refine L.move rfl rfl ?_
      refine L.buildSlice rfl bs25 (by decide) (BP.one rfl rfl rfl <| BP.doneE (out := []) rfl) (fun b36 => ?_)
      refine L.append1 rfl Tryz.underlying25 el9 rfl rfl qP qM rfl qO1 qI qI (fun a37 c37 => ?_)
      refine L.assign rfl rfl ?_
      refine L.nil ?_
      refine T.blkN ?_
      refine T.thenN ?_
      refine T.region ?_
      refine L.move rfl rfl ?_
      refine L.addN rfl rfl rfl (by omega) ?_
      refine L.assign rfl rfl ?_
      refine L.nil ?_
      refine T.thenN ?_
      refine T.ownEq _ ((acc ++ [(bytB q ((32 : Nat) : Int)).1]).map ys) qP (by rw [List.map_append]; rfl) ?_
      exact T.back ⟨i + 1, n7 + 1, _, _, (bytB q ((32 : Nat) : Int)).2, acc ++ [(bytB q ((32 : Nat) : Int)).1], ⟨hI.next (by omega) hqe, by rw [List.length_append, hac]; rfl⟩, rfl, rfl, rfl, rfl⟩ qI (.cons (t := 6) rfl <| .cons (t := 8) rfl <| .cons (t := 7) rfl <| SubK.nil _) (.cons (t := 2) rfl <| .cons (t := 4) rfl <| .cons (t := 6) rfl <| SubK.nil _) qD qD qF
    · try simp only [decide_eq_true_eq, decide_eq_false_iff_not, Bool.not_eq_true', Bool.not_eq_false', Bool.and_eq_true, Bool.or_eq_true] at h25
      refine T.exit ?_
      refine T.thenX ?_
      refine T.thenX ?_
      refine T.blkX ?_
      refine T.thenN ?_
      refine T.seq ?_
      refine T.seq ?_
      refine T.region ?_
      first | refine L.field0 rfl fo105_1 rfl ?_ | refine L.field rfl fo105_1 rfl ?_
      refine L.load rfl sc3 rfl qC ?_
      refine L.neI rfl rfl rfl ?_
      refine L.nil ?_
      refine T.thenN ?_
      refine T.cond rfl (fun h40 => ?_) (fun h40 => ?_)
      · try simp only [decide_eq_true_eq, decide_eq_false_iff_not, Bool.not_eq_true', Bool.not_eq_false', Bool.and_eq_true, Bool.or_eq_true] at h40
        refine T.seq ?_
        refine T.region ?_
        refine L.loadA rfl ag105 rfl qN ?_
        refine L.storeA ag105 rfl rfl qL qO qU qW ?_
        refine L.assign rfl rfl ?_
        refine L.nil ?_
        refine T.newOwn (sz := 1) (e := 9) ?_
        refine T.eqv qP (show own 1 9 none 0 0 [] = own 1 9 none 0 0 ((([] : List (List UInt8))).map ys) from rfl) ?_
        refine T.thenN ?_
        refine T.ret ?_
        refine T.thenR ?_
        have hst := hI.stop (by first | (left; omega) | (right; assumption))
        have hF3 : (idsF b top).2 = q := by rw [hF1, hst]
        have hF4 : (idsF b top).1.map (·.1) = if q.err ≠ 0 then [] else acc := by rw [hF2, hst]
        first | rw [if_pos h40] at hF4 | rw [if_neg h40] at hF4
        have hF5 := congrArg List.length hF4
        rw [List.length_map] at hF5
        rw [hF3, hF4]
        exact T.retAT rfl ag105 rfl qN rfl ⟨_, _, _, rfl, (by first | exact hF5 | exact hF5.trans hac), rfl, rfl⟩ qD qF
      · try simp only [decide_eq_true_eq, decide_eq_false_iff_not, Bool.not_eq_true', Bool.not_eq_false', Bool.and_eq_true, Bool.or_eq_true] at h40
        refine T.skip ?_
        refine T.thenN ?_
        refine T.seq ?_
        refine T.region ?_
        refine L.loadA rfl ag105 rfl qN ?_
        refine L.move rfl rfl ?_
        refine L.storeA ag105 rfl rfl qL qO qU qW ?_
        refine L.assign rfl rfl ?_
        refine L.nil ?_
        refine T.thenN ?_
        refine T.ret ?_
        have hst := hI.stop (by first | (left; omega) | (right; assumption))
        have hF3 : (idsF b top).2 = q := by rw [hF1, hst]
        have hF4 : (idsF b top).1.map (·.1) = if q.err ≠ 0 then [] else acc := by rw [hF2, hst]
        first | rw [if_pos h40] at hF4 | rw [if_neg h40] at hF4
        have hF5 := congrArg List.length hF4
        rw [List.length_map] at hF5
        rw [hF3, hF4]
        exact T.retAT rfl ag105 rfl qN rfl ⟨_, _, _, rfl, (by first | exact hF5 | exact hF5.trans hac), rfl, rfl⟩ qD qF
  · try simp only [decide_eq_true_eq, decide_eq_false_iff_not, Bool.not_eq_true', Bool.not_eq_false', Bool.and_eq_true, Bool.or_eq_true] at h1
    refine L.guardF (dj := 21) (c := false) rfl rfl rfl rfl rfl (by decide) ?_
    refine L.guardF (dj := 21) (c := false) rfl rfl rfl rfl rfl (by decide) ?_
    refine L.guardF (dj := 21) (c := false) rfl rfl rfl rfl rfl (by decide) ?_
    refine L.pickF rfl rfl rfl ?_
    refine L.nil ?_
    refine T.thenN ?_
    refine T.condF rfl rfl ?_
    refine T.exit ?_
    refine T.thenX ?_
    refine T.thenX ?_
    refine T.blkX ?_
    refine T.thenN ?_
    refine T.seq ?_
    refine T.seq ?_
    refine T.region ?_
    first | refine L.field0 rfl fo105_1 rfl ?_ | refine L.field rfl fo105_1 rfl ?_
    refine L.load rfl sc3 rfl qC ?_
    refine L.neI rfl rfl rfl ?_
    refine L.nil ?_
    refine T.thenN ?_
    refine T.cond rfl (fun h40 => ?_) (fun h40 => ?_)
    · try simp only [decide_eq_true_eq, decide_eq_false_iff_not, Bool.not_eq_true', Bool.not_eq_false', Bool.and_eq_true, Bool.or_eq_true] at h40
      refine T.seq ?_
      refine T.region ?_
      refine L.loadA rfl ag105 rfl qN ?_
      refine L.storeA ag105 rfl rfl qL qO qU qW ?_
      refine L.assign rfl rfl ?_
      refine L.nil ?_
      refine T.newOwn (sz := 1) (e := 9) ?_
      refine T.eqv qP (show own 1 9 none 0 0 [] = own 1 9 none 0 0 ((([] : List (List UInt8))).map ys) from rfl) ?_
      refine T.thenN ?_
      refine T.ret ?_
      refine T.thenR ?_
      have hst := hI.stop (by first | (left; omega) | (right; assumption))
      have hF3 : (idsF b top).2 = q := by rw [hF1, hst]
      have hF4 : (idsF b top).1.map (·.1) = if q.err ≠ 0 then [] else acc := by rw [hF2, hst]
      first | rw [if_pos h40] at hF4 | rw [if_neg h40] at hF4
      have hF5 := congrArg List.length hF4
      rw [List.length_map] at hF5
      rw [hF3, hF4]
      exact T.retAT rfl ag105 rfl qN rfl ⟨_, _, _, rfl, (by first | exact hF5 | exact hF5.trans hac), rfl, rfl⟩ qD qF
    · try simp only [decide_eq_true_eq, decide_eq_false_iff_not, Bool.not_eq_true', Bool.not_eq_false', Bool.and_eq_true, Bool.or_eq_true] at h40
      refine T.skip ?_
      refine T.thenN ?_
      refine T.seq ?_
      refine T.region ?_
      refine L.loadA rfl ag105 rfl qN ?_
      refine L.move rfl rfl ?_
      refine L.storeA ag105 rfl rfl qL qO qU qW ?_
      refine L.assign rfl rfl ?_
      refine L.nil ?_
      refine T.thenN ?_
      refine T.ret ?_
      have hst := hI.stop (by first | (left; omega) | (right; assumption))
      have hF3 : (idsF b top).2 = q := by rw [hF1, hst]
      have hF4 : (idsF b top).1.map (·.1) = if q.err ≠ 0 then [] else acc := by rw [hF2, hst]
      first | rw [if_pos h40] at hF4 | rw [if_neg h40] at hF4
      have hF5 := congrArg List.length hF4
      rw [List.length_map] at hF5
      rw [hF3, hF4]
      exact T.retAT rfl ag105 rfl qN rfl ⟨_, _, _, rfl, (by first | exact hF5 | exact hF5.trans hac), rfl, rfl⟩ qD qF
end Cv
