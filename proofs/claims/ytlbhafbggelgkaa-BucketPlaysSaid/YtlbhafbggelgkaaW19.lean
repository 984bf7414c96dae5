/-
  The walk of Gone (bucket).
-/
import Derived.Test.YtlbhafbggelgkaaV19
import Derived.Test.YtlbhafbggelgkaaProg
import Derived.KernelRfl
set_option maxRecDepth 10000
set_option linter.unusedSimpArgs false
set_option linter.unusedVariables false
namespace Cv
open Go Go.Proofs

set_option maxHeartbeats 400000 in
theorem gone_spec {b : Nat} {o n : Int} {F : Int → Row}  : Spec Try.prog 15 [.pointer (some ⟨b, 0, none⟩), .int .i64 n] [] [tblA b o F] (fun v D' M' => v = .bool (goneB o F n) ∧ D' = [] ∧ M' = [tblA b o (goneF o F n)]) := by
  refine Spec.intro (n := 64) Try.func15 rfl rfl (by decide) (Nat.le_of_ble_eq_true rfl) rfl (fun _ => qA) (fun _ => qA) ?_
  intro σ D M
  refine T.tblOpen qP (fun mb ml hF => ?_)
  have hido := idF_len o
  have h34 := hdr_len (o := o) (mb := mb)
  refine T.seq ?_
  refine T.region ?_
  refine L.assign rfl rfl ?_
  refine L.nil ?_
  refine T.thenN ?_
  refine T.seq ?_
  refine T.seq ?_
  refine T.cutC (fun K' D' M' => ∃ (w : Bool), (w = true ↔ Bad o n) ∧ K' = [(20, .bool w)] ∧ D' = [] ∧ M' = []) (M0 := []) (.cons (t := 0) rfl <| .cons (t := 1) rfl <| SubK.nil _) qS ?_ ?_
  · skip
    refine T.region ?_
    refine L.move rfl rfl ?_
    refine L.move rfl rfl ?_
    refine L.nilCheck rfl rfl ?_
    first | refine L.field0 rfl fo57_0 rfl ?_ | refine L.field rfl fo57_0 rfl ?_
    refine L.load rfl sc3 rfl qC ?_
    refine L.eqI rfl rfl rfl ?_
    refine L.move rfl rfl ?_
    refine L.part (t := 13) rfl (fun h1 => ?_) (fun h1 => ?_)
    · try simp only [decide_eq_true_eq, decide_eq_false_iff_not, Bool.not_eq_true', Bool.not_eq_false', Bool.and_eq_true, Bool.or_eq_true] at h1
      refine L.guardF (dj := 13) (c := true) rfl rfl rfl rfl rfl (by decide) ?_
      refine L.guardF (dj := 13) (c := true) rfl rfl rfl rfl rfl (by decide) ?_
      refine L.pickT rfl rfl rfl ?_
      refine L.move rfl rfl ?_
      refine L.guardF (dj := 17) (c := true) rfl rfl rfl rfl rfl (by decide) ?_
      refine L.guardF (dj := 17) (c := true) rfl rfl rfl rfl rfl (by decide) ?_
      refine L.pickT rfl rfl rfl ?_
      refine L.nil ?_
      refine T.thenN ?_
      exact T.toJoin ⟨_, (by unfold Bad; simp <;> omega), rfl, rfl, rfl⟩ (.cons (t := 20) rfl <| SubK.nil _) (.cons (t := 0) rfl <| .cons (t := 1) rfl <| SubK.nil _) qD qD qF
    · try simp only [decide_eq_true_eq, decide_eq_false_iff_not, Bool.not_eq_true', Bool.not_eq_false', Bool.and_eq_true, Bool.or_eq_true] at h1
      refine L.guardT (dj := 13) rfl rfl rfl ?_
      refine L.move rfl rfl ?_
      refine L.guardT (dj := 13) rfl rfl rfl ?_
      refine L.ltI rfl rfl rfl ?_
      refine L.pickF rfl rfl rfl ?_
      refine L.move rfl rfl ?_
      refine L.part (t := 17) rfl (fun h2 => ?_) (fun h2 => ?_)
      · try simp only [decide_eq_true_eq, decide_eq_false_iff_not, Bool.not_eq_true', Bool.not_eq_false', Bool.and_eq_true, Bool.or_eq_true] at h2
        refine L.guardF (dj := 17) (c := true) rfl rfl rfl rfl rfl (by decide) ?_
        refine L.guardF (dj := 17) (c := true) rfl rfl rfl rfl rfl (by decide) ?_
        refine L.pickT rfl rfl rfl ?_
        refine L.nil ?_
        refine T.thenN ?_
        exact T.toJoin ⟨_, (by unfold Bad; simp <;> omega), rfl, rfl, rfl⟩ (.cons (t := 20) rfl <| SubK.nil _) (.cons (t := 0) rfl <| .cons (t := 1) rfl <| SubK.nil _) qD qD qF
      · try simp only [decide_eq_true_eq, decide_eq_false_iff_not, Bool.not_eq_true', Bool.not_eq_false', Bool.and_eq_true, Bool.or_eq_true] at h2
        refine L.guardT (dj := 17) rfl rfl rfl ?_
        refine L.move rfl rfl ?_
        refine L.guardT (dj := 17) rfl rfl rfl ?_
        refine L.geI rfl rfl rfl ?_
        refine L.pickF rfl rfl rfl ?_
        refine L.nil ?_
        refine T.thenN ?_
        exact T.toJoin ⟨_, (by unfold Bad; simp <;> omega), rfl, rfl, rfl⟩ (.cons (t := 20) rfl <| SubK.nil _) (.cons (t := 0) rfl <| .cons (t := 1) rfl <| SubK.nil _) qD qD qF
  rintro _ _ _ ⟨w, hw, rfl, rfl, rfl⟩
  refine T.norm3 qA qA qA ?_
  refine T.thenN ?_
  refine T.cond rfl (fun h20 => ?_) (fun h20 => ?_)
  · try simp only [decide_eq_true_eq, decide_eq_false_iff_not, Bool.not_eq_true', Bool.not_eq_false', Bool.and_eq_true, Bool.or_eq_true] at h20
    have hbad := hw.1 h20
    refine T.seq ?_
    refine T.tblShut hF qS ?_
    refine T.eqv qP (show tblA b o F = tblA b o (goneF o F n) from by rw [goneF, if_pos hbad]) ?_
    refine T.region ?_
    refine L.assign rfl rfl ?_
    refine L.nil ?_
    refine T.thenN ?_
    refine T.ret ?_
    refine T.thenR ?_
    exact T.ret1 rfl rfl ⟨congrArg Value.bool (by rw [goneB, decide_eq_false (by simpa using hbad)]; rfl), rfl, rfl⟩ qD qF
  · try simp only [decide_eq_true_eq, decide_eq_false_iff_not, Bool.not_eq_true', Bool.not_eq_false', Bool.and_eq_true, Bool.or_eq_true] at h20
    have hbad : ¬ Bad o n := fun e => by have := hw.2 e; rw [h20] at this; cases this
    refine T.skip ?_
    refine T.thenN ?_
    refine T.seq ?_
    refine T.tblShut hF qS ?_
    refine T.region ?_
    refine L.move rfl rfl ?_
    refine L.move rfl rfl ?_
    refine L.call rfl (evs.cons rfl <| evs.cons rfl <| evs.nil) qD qS (tat_spec) ?_
    rintro _ _ _ ⟨blk, a, cap, rfl, rfl, rfl⟩
    refine L.norm qA qA ?_
    refine L.rstOk qM (fun hok => ?_)
    have hr4 := hok.2.2.1
    obtain ⟨k, hk⟩ : ∃ k, rowF o n = k := ⟨_, rfl⟩
    rw [hk] at hok hr4 ⊢
    refine L.assign rfl rfl ?_
    refine L.nil ?_
    refine T.thenN ?_
    refine T.seq ?_
    refine T.region ?_
    refine L.move rfl rfl ?_
    refine L.nilCheck rfl rfl ?_
    first | refine L.field0 rfl fo62_0 rfl ?_ | refine L.field rfl fo62_0 rfl ?_
    refine L.load rfl sc22 rfl qC ?_
    refine L.move rfl rfl ?_
    refine L.callB1 rfl (evs.cons rfl <| evs.cons rfl <| evs.nil) qS qP (fun z H => rsl_of_own H) (index_spec (xs := (F k).1) (by omega)) ?_
    rintro _ _ _ ⟨rfl, rfl, rfl⟩
    refine L.norm AppL.nil qA ?_
    refine L.assign rfl rfl ?_
    refine L.nil ?_
    refine T.thenN ?_
    refine T.seq ?_
    refine T.seq ?_
    refine T.region ?_
    refine L.move rfl rfl ?_
    refine L.ltI rfl rfl rfl ?_
    refine L.nil ?_
    refine T.thenN ?_
    refine T.cond rfl (fun h31 => ?_) (fun h31 => ?_)
    · try simp only [decide_eq_true_eq, decide_eq_false_iff_not, Bool.not_eq_true', Bool.not_eq_false', Bool.and_eq_true, Bool.or_eq_true] at h31
      have hR : gRow (F k) n = ((F k).1, (F k).2) := by rw [gRow, if_pos h31]
      refine T.seq ?_
      have hro := gRow_ok (n := n) hok
      have hef : goneF o F n = updR F k (gRow (F k) n) := by rw [goneF, if_neg hbad, hk]
      rw [hR] at hro hef
      refine T.clEq blk (rcells a cap ((F k).1, (F k).2)) qP (by first | rfl | (simp only [hnx])) ?_
      refine T.tblClose (a := a) (cap := cap) ((F k).1, (F k).2) hro qS ?_
      rw [← hef]
      refine T.region ?_
      refine L.assign rfl rfl ?_
      refine L.nil ?_
      refine T.thenN ?_
      refine T.ret ?_
      refine T.thenR ?_
      exact T.ret1 rfl rfl ⟨congrArg Value.bool (by rw [goneB, hk, decide_eq_false (p := 0 ≤ _) (by omega)]; simp), rfl, rfl⟩ qD qF
    · try simp only [decide_eq_true_eq, decide_eq_false_iff_not, Bool.not_eq_true', Bool.not_eq_false', Bool.and_eq_true, Bool.or_eq_true] at h31
      obtain ⟨i, hi⟩ : ∃ i : Nat, ixF n (F k).1 = (i : Int) := ⟨_, (Int.toNat_of_nonneg (by omega)).symm⟩
      have hib := (ixF_lb n (F k).1).2
      rw [hi] at hib ⊢
      have hel : ((F k).1.eraseIdx i).length ≤ 4 := Nat.le_trans (List.length_eraseIdx_le _ _) hr4
      refine T.skip ?_
      refine T.thenN ?_
      refine T.seq ?_
      refine T.region ?_
      refine L.move rfl rfl ?_
      refine L.move rfl rfl ?_
      refine L.nilCheck rfl rfl ?_
      first | refine L.field0 rfl fo62_0 rfl ?_ | refine L.field rfl fo62_0 rfl ?_
      refine L.load rfl sc22 rfl qC ?_
      refine L.move rfl rfl ?_
      refine L.move rfl rfl ?_
      refine L.addN rfl rfl rfl (by omega) ?_
      refine L.call rfl (evs.cons rfl <| evs.cons rfl <| evs.cons rfl <| evs.nil) qD qS (delete_spec (i := i) (xs := (F k).1) (by omega) (by omega)) ?_
      rintro _ _ _ ⟨rfl, rfl, rfl⟩
      refine L.norm qA qA ?_
      rw [show (F k).1.length - 1 = ((F k).1.eraseIdx i).length from by simp [List.length_eraseIdx]; omega]
      refine L.nilCheck rfl rfl ?_
      first | refine L.field0 rfl fo62_0 rfl ?_ | refine L.field rfl fo62_0 rfl ?_
      refine L.store sc22 rfl rfl rfl qU qE ?_
      refine L.nil ?_
      refine T.thenN ?_
      refine T.seq ?_
      refine T.seq ?_
      refine T.region ?_
      refine L.move rfl rfl ?_
      refine L.nilCheck rfl rfl ?_
      first | refine L.field0 rfl fo62_1 rfl ?_ | refine L.field rfl fo62_1 rfl ?_
      refine L.load rfl sc3 rfl qC ?_
      refine L.geI rfl rfl rfl ?_
      refine L.nil ?_
      refine T.thenN ?_
      refine T.cond rfl (fun h47 => ?_) (fun h47 => ?_)
      · try simp only [decide_eq_true_eq, decide_eq_false_iff_not, Bool.not_eq_true', Bool.not_eq_false', Bool.and_eq_true, Bool.or_eq_true] at h47
        have hR : gRow (F k) n = ((F k).1.eraseIdx i ++ [(F k).2], -1) := by rw [gRow, if_neg h31, hi, if_pos h47]; rfl
        refine T.seq ?_
        refine T.regionA (clsL [1, 1, 0, 1, 0, 1, 0, 1, 0, 0, 2, 2, 1, 2]) (by kernel_rfl) ?_
        refine A.takeP (i := 0) rfl rfl rfl rfl (by kernel_rfl) (by kernel_rfl) (by kernel_rfl) rfl ?_
        refine L.move rfl rfl ?_
        refine A.took ?_
        refine A.takeP (i := 1) rfl rfl rfl rfl (by kernel_rfl) (by kernel_rfl) (by kernel_rfl) rfl ?_
        refine L.move rfl rfl ?_
        refine A.took ?_
        refine A.takeP (i := 5) rfl rfl rfl rfl (by kernel_rfl) (by kernel_rfl) (by kernel_rfl) rfl ?_
        refine L.move rfl rfl ?_
        refine A.took ?_
        refine A.nilCheck (i := 2) rfl rfl (by kernel_rfl) (by kernel_rfl) (by kernel_rfl) (by kernel_rfl) rfl qD qF rfl ?_
        refine A.takeP (i := 3) rfl rfl rfl rfl (by kernel_rfl) (by kernel_rfl) (by kernel_rfl) rfl ?_
        first | refine L.field0 rfl fo62_0 rfl ?_ | refine L.field rfl fo62_0 rfl ?_
        refine A.took ?_
        refine A.take (i := 4) rfl rfl rfl rfl (by kernel_rfl) (by kernel_rfl) (by kernel_rfl) (by kernel_rfl) rfl qD qF ?_
        refine L.load rfl sc22 rfl qC ?_
        refine A.took ?_
        refine A.nilCheck (i := 6) rfl rfl (by kernel_rfl) (by kernel_rfl) (by kernel_rfl) (by kernel_rfl) rfl qD qF rfl ?_
        refine A.takeP (i := 7) rfl rfl rfl rfl (by kernel_rfl) (by kernel_rfl) (by kernel_rfl) rfl ?_
        first | refine L.field0 rfl fo62_1 rfl ?_ | refine L.field rfl fo62_1 rfl ?_
        refine A.took ?_
        refine A.take (i := 8) rfl rfl rfl rfl (by kernel_rfl) (by kernel_rfl) (by kernel_rfl) (by kernel_rfl) rfl qD qF ?_
        refine L.load rfl sc3 rfl qC ?_
        refine A.took ?_
        refine A.branch (is := [9]) (by kernel_rfl) (by decide) (Each.cons rfl ?_ <| Each.nil) 
        refine L.buildSlice rfl bs22 (by decide) (BP.one rfl rfl rfl <| BP.doneE (out := []) rfl) (fun b57 => ?_)
        refine A.back rfl qD qF ?_
        refine A.branch (is := [10]) (by kernel_rfl) (by decide) (Each.cons rfl ?_ <| Each.nil) 
        refine L.append1 rfl Try.underlying22 el3 rfl rfl qP qM rfl qO1 qI qI (fun a58 c58 => ?_)
        rw [show ((F k).1.eraseIdx i).length + 1 = ((F k).1.eraseIdx i ++ [(F k).2]).length from by simp]
        refine A.backT rfl ?_
        refine A.branch (is := [11]) (by kernel_rfl) (by decide) (Each.cons rfl ?_ <| Each.nil) 
        refine L.nilCheck rfl rfl ?_
        refine A.backT rfl ?_
        refine A.takeP (i := 12) rfl rfl rfl rfl (by kernel_rfl) (by kernel_rfl) (by kernel_rfl) rfl ?_
        first | refine L.field0 rfl fo62_0 rfl ?_ | refine L.field rfl fo62_0 rfl ?_
        refine A.took ?_
        refine A.branch (is := [13]) (by kernel_rfl) (by decide) (Each.cons rfl ?_ <| Each.nil) 
        refine L.store sc22 rfl rfl rfl qU qE ?_
        refine A.backT rfl ?_
        refine A.done (by kernel_rfl) ?_
        refine T.thenN ?_
        refine T.region ?_
        refine L.move rfl rfl ?_
        refine L.nilCheck rfl rfl ?_
        first | refine L.field0 rfl fo62_1 rfl ?_ | refine L.field rfl fo62_1 rfl ?_
        refine L.store sc3 rfl rfl rfl qU qE ?_
        refine L.nil ?_
        have hro := gRow_ok (n := n) hok
        have hef : goneF o F n = updR F k (gRow (F k) n) := by rw [goneF, if_neg hbad, hk]
        rw [hR] at hro hef
        refine T.ownEq a58 (((F k).1.eraseIdx i ++ [(F k).2]).map e3) qP (by simp) ?_
        refine T.clEq blk (rcells a58 c58 ((F k).1.eraseIdx i ++ [(F k).2], -1)) qP (by first | rfl | (simp only [hnx])) ?_
        refine T.tblClose (a := a58) (cap := c58) ((F k).1.eraseIdx i ++ [(F k).2], -1) hro qS ?_
        rw [← hef]
        refine T.thenN ?_
        refine T.seq ?_
        refine T.region ?_
        refine L.assign rfl rfl ?_
        refine L.nil ?_
        refine T.thenN ?_
        refine T.ret ?_
        exact T.ret1 rfl rfl ⟨congrArg Value.bool (by rw [goneB, hk, decide_eq_true hbad, decide_eq_true (by omega)]; rfl), rfl, rfl⟩ qD qF
      · try simp only [decide_eq_true_eq, decide_eq_false_iff_not, Bool.not_eq_true', Bool.not_eq_false', Bool.and_eq_true, Bool.or_eq_true] at h47
        have hR : gRow (F k) n = ((F k).1.eraseIdx i, (F k).2) := by rw [gRow, if_neg h31, hi, if_neg h47]; rfl
        have hro := gRow_ok (n := n) hok
        have hef : goneF o F n = updR F k (gRow (F k) n) := by rw [goneF, if_neg hbad, hk]
        rw [hR] at hro hef
        refine T.clEq blk (rcells a cap ((F k).1.eraseIdx i, (F k).2)) qP (by first | rfl | (simp only [hnx])) ?_
        refine T.tblClose (a := a) (cap := cap) ((F k).1.eraseIdx i, (F k).2) hro qS ?_
        rw [← hef]
        refine T.skip ?_
        refine T.thenN ?_
        refine T.seq ?_
        refine T.region ?_
        refine L.assign rfl rfl ?_
        refine L.nil ?_
        refine T.thenN ?_
        refine T.ret ?_
        exact T.ret1 rfl rfl ⟨congrArg Value.bool (by rw [goneB, hk, decide_eq_true hbad, decide_eq_true (by omega)]; rfl), rfl, rfl⟩ qD qF
end Cv
