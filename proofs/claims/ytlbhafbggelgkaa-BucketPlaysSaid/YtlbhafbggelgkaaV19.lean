/-
  The walk of Heard (bucket).
-/
import Derived.Test.YtlbhafbggelgkaaP19
import Derived.Test.YtlbhafbggelgkaaProg
import Derived.KernelRfl
set_option maxRecDepth 10000
set_option linter.unusedSimpArgs false
set_option linter.unusedVariables false
namespace Cv
open Go Go.Proofs
theorem fo57_0 : Fo Try.prog 57 0 0 := fun a w => by kernel_rfl
theorem fo62_0 : Fo Try.prog 62 0 0 := fun a w => by kernel_rfl
theorem sc22 : Sc Try.prog 22 := fun w => ⟨by kernel_rfl, by kernel_rfl⟩
theorem fo62_1 : Fo Try.prog 62 1 1 := fun a w => by kernel_rfl
theorem L.rstOk {P : Program} {σ : World} {sn : Nat} {Q : Post} {K : Env} {D M : List Asn} {ops : Array Oper} {l : List Oper} {b blk : Nat} {o k : Int} {F : Int → Row} (hm : rstA b o k blk F ∈ M) (next : ROk o k (F k) → TL none P σ sn ops Q l K D M) : TL none P σ sn ops Q l K D M := T.rstOk hm next
set_option maxHeartbeats 400000 in
theorem heard_spec {b : Nat} {o n : Int} {F : Int → Row}  : Spec Try.prog 10 [.pointer (some ⟨b, 0, none⟩), .int .i64 n] [] [tblA b o F] (fun v D' M' => v = .tuple #[.int .i64 (heardA o F n).1, .bool (heardA o F n).2] ∧ D' = [] ∧ M' = [tblA b o (heardF o F n)]) := by
  refine Spec.intro (n := 83) Try.func10 rfl rfl (by decide) (Nat.le_of_ble_eq_true rfl) rfl (fun _ => qA) (fun _ => qA) ?_
  intro σ D M
  refine T.tblOpen qP (fun mb ml hF => ?_)
  have hido := idF_len o
  have h34 := hdr_len (o := o) (mb := mb)
  refine T.seq ?_
  refine T.region ?_
  refine L.assign rfl rfl ?_
  refine L.assign rfl rfl ?_
  refine L.nil ?_
  refine T.thenN ?_
  refine T.seq ?_
  refine T.seq ?_
  refine T.cutC (fun K' D' M' => ∃ (w : Bool), (w = true ↔ Bad o n) ∧ K' = [(21, .bool w)] ∧ D' = [] ∧ M' = []) (M0 := []) (.cons (t := 0) rfl <| .cons (t := 1) rfl <| SubK.nil _) qS ?_ ?_
  · skip
    refine T.region ?_
    refine L.move rfl rfl ?_
    refine L.move rfl rfl ?_
    refine L.nilCheck rfl rfl ?_
    first | refine L.field0 rfl fo57_0 rfl ?_ | refine L.field rfl fo57_0 rfl ?_
    refine L.load rfl sc3 rfl qC ?_
    refine L.eqI rfl rfl rfl ?_
    refine L.move rfl rfl ?_
    refine L.part (t := 14) rfl (fun h1 => ?_) (fun h1 => ?_)
    · try simp only [decide_eq_true_eq, decide_eq_false_iff_not, Bool.not_eq_true', Bool.not_eq_false', Bool.and_eq_true, Bool.or_eq_true] at h1
      refine L.guardF (dj := 14) (c := true) rfl rfl rfl rfl rfl (by decide) ?_
      refine L.guardF (dj := 14) (c := true) rfl rfl rfl rfl rfl (by decide) ?_
      refine L.pickT rfl rfl rfl ?_
      refine L.move rfl rfl ?_
      refine L.guardF (dj := 18) (c := true) rfl rfl rfl rfl rfl (by decide) ?_
      refine L.guardF (dj := 18) (c := true) rfl rfl rfl rfl rfl (by decide) ?_
      refine L.pickT rfl rfl rfl ?_
      refine L.nil ?_
      refine T.thenN ?_
      exact T.toJoin ⟨_, (by unfold Bad; simp <;> omega), rfl, rfl, rfl⟩ (.cons (t := 21) rfl <| SubK.nil _) (.cons (t := 0) rfl <| .cons (t := 1) rfl <| SubK.nil _) qD qD qF
    · try simp only [decide_eq_true_eq, decide_eq_false_iff_not, Bool.not_eq_true', Bool.not_eq_false', Bool.and_eq_true, Bool.or_eq_true] at h1
      refine L.guardT (dj := 14) rfl rfl rfl ?_
      refine L.move rfl rfl ?_
      refine L.guardT (dj := 14) rfl rfl rfl ?_
      refine L.ltI rfl rfl rfl ?_
      refine L.pickF rfl rfl rfl ?_
      refine L.move rfl rfl ?_
      refine L.part (t := 18) rfl (fun h2 => ?_) (fun h2 => ?_)
      · try simp only [decide_eq_true_eq, decide_eq_false_iff_not, Bool.not_eq_true', Bool.not_eq_false', Bool.and_eq_true, Bool.or_eq_true] at h2
        refine L.guardF (dj := 18) (c := true) rfl rfl rfl rfl rfl (by decide) ?_
        refine L.guardF (dj := 18) (c := true) rfl rfl rfl rfl rfl (by decide) ?_
        refine L.pickT rfl rfl rfl ?_
        refine L.nil ?_
        refine T.thenN ?_
        exact T.toJoin ⟨_, (by unfold Bad; simp <;> omega), rfl, rfl, rfl⟩ (.cons (t := 21) rfl <| SubK.nil _) (.cons (t := 0) rfl <| .cons (t := 1) rfl <| SubK.nil _) qD qD qF
      · try simp only [decide_eq_true_eq, decide_eq_false_iff_not, Bool.not_eq_true', Bool.not_eq_false', Bool.and_eq_true, Bool.or_eq_true] at h2
        refine L.guardT (dj := 18) rfl rfl rfl ?_
        refine L.move rfl rfl ?_
        refine L.guardT (dj := 18) rfl rfl rfl ?_
        refine L.geI rfl rfl rfl ?_
        refine L.pickF rfl rfl rfl ?_
        refine L.nil ?_
        refine T.thenN ?_
        exact T.toJoin ⟨_, (by unfold Bad; simp <;> omega), rfl, rfl, rfl⟩ (.cons (t := 21) rfl <| SubK.nil _) (.cons (t := 0) rfl <| .cons (t := 1) rfl <| SubK.nil _) qD qD qF
  rintro _ _ _ ⟨w, hw, rfl, rfl, rfl⟩
  refine T.norm3 qA qA qA ?_
  refine T.thenN ?_
  refine T.cond rfl (fun h21 => ?_) (fun h21 => ?_)
  · try simp only [decide_eq_true_eq, decide_eq_false_iff_not, Bool.not_eq_true', Bool.not_eq_false', Bool.and_eq_true, Bool.or_eq_true] at h21
    have hbad := hw.1 h21
    refine T.seq ?_
    refine T.tblShut hF qS ?_
    refine T.eqv qP (show tblA b o F = tblA b o (heardF o F n) from by rw [heardF, if_pos hbad]) ?_
    refine T.region ?_
    refine L.assign rfl rfl ?_
    refine L.assign rfl rfl ?_
    refine L.nil ?_
    refine T.thenN ?_
    refine T.ret ?_
    refine T.thenR ?_
    exact T.ret2 rfl rfl rfl ⟨by rw [heardA, if_pos hbad], rfl, rfl⟩ qD qF
  · try simp only [decide_eq_true_eq, decide_eq_false_iff_not, Bool.not_eq_true', Bool.not_eq_false', Bool.and_eq_true, Bool.or_eq_true] at h21
    have hbad : ¬ Bad o n := fun e => by have := hw.2 e; rw [h21] at this; cases this
    refine T.skip ?_
    refine T.thenN ?_
    refine T.seq ?_
    refine T.tblShut hF qS ?_
    refine T.region ?_
    refine L.move rfl rfl ?_
    refine L.move rfl rfl ?_
    refine L.call rfl (evs.cons rfl <| evs.cons rfl <| evs.nil) qD qS (tat_spec) ?_
    rintro _ _ _ ⟨blk, a, cap, rfl, rfl, rfl⟩
    refine L.norm qA qA ?_
    refine L.rstOk qM (fun hok => ?_)
    have hr4 := hok.2.2.1
    obtain ⟨k, hk⟩ : ∃ k, rowF o n = k := ⟨_, rfl⟩
    rw [hk] at hok hr4 ⊢
    refine L.assign rfl rfl ?_
    refine L.nil ?_
    refine T.thenN ?_
    refine T.seq ?_
    refine T.seq ?_
    refine T.region ?_
    refine L.move rfl rfl ?_
    refine L.nilCheck rfl rfl ?_
    first | refine L.field0 rfl fo62_0 rfl ?_ | refine L.field rfl fo62_0 rfl ?_
    refine L.load rfl sc22 rfl qC ?_
    refine L.move rfl rfl ?_
    refine L.callB1 rfl (evs.cons rfl <| evs.cons rfl <| evs.nil) qS qP (fun z H => rsl_of_own H) (index_spec (xs := (F k).1) (by omega)) ?_
    rintro _ _ _ ⟨rfl, rfl, rfl⟩
    refine L.norm AppL.nil qA ?_
    refine L.assign rfl rfl ?_
    refine L.nil ?_
    refine T.thenN ?_
    refine T.seq ?_
    refine T.region ?_
    refine L.move rfl rfl ?_
    refine L.geI rfl rfl rfl ?_
    refine L.nil ?_
    refine T.thenN ?_
    refine T.cond rfl (fun h32 => ?_) (fun h32 => ?_)
    · try simp only [decide_eq_true_eq, decide_eq_false_iff_not, Bool.not_eq_true', Bool.not_eq_false', Bool.and_eq_true, Bool.or_eq_true] at h32
      obtain ⟨i, hi⟩ : ∃ i : Nat, ixF n (F k).1 = (i : Int) := ⟨_, (Int.toNat_of_nonneg h32).symm⟩
      have hib := (ixF_lb n (F k).1).2
      rw [hi] at hib ⊢
      refine T.seq ?_
      refine T.seq ?_
      refine T.region ?_
      refine L.move rfl rfl ?_
      refine L.eqI rfl rfl rfl ?_
      refine L.nil ?_
      refine T.thenN ?_
      refine T.cond rfl (fun h34 => ?_) (fun h34 => ?_)
      · try simp only [decide_eq_true_eq, decide_eq_false_iff_not, Bool.not_eq_true', Bool.not_eq_false', Bool.and_eq_true, Bool.or_eq_true] at h34
        obtain ⟨nx, hnx, hR⟩ : ∃ nx : Int, nx = -1 ∧ hRow (F k) n = ((F k).1.eraseIdx i ++ [n], nx) := ⟨-1, rfl, by rw [hRow, if_pos h32, hi, if_pos h34]; rfl⟩
        refine T.region ?_
        refine L.move rfl rfl ?_
        refine L.nilCheck rfl rfl ?_
        first | refine L.field0 rfl fo62_1 rfl ?_ | refine L.field rfl fo62_1 rfl ?_
        refine L.store sc3 rfl rfl rfl qU qE ?_
        refine L.nil ?_
        refine T.thenN ?_
        refine T.seq ?_
        refine T.region ?_
        refine L.move rfl rfl ?_
        refine L.move rfl rfl ?_
        refine L.nilCheck rfl rfl ?_
        first | refine L.field0 rfl fo62_0 rfl ?_ | refine L.field rfl fo62_0 rfl ?_
        refine L.load rfl sc22 rfl qC ?_
        refine L.move rfl rfl ?_
        refine L.move rfl rfl ?_
        refine L.addN rfl rfl rfl (by omega) ?_
        refine L.call rfl (evs.cons rfl <| evs.cons rfl <| evs.cons rfl <| evs.nil) qD qS (delete_spec (i := i) (xs := (F k).1) (by omega) (by omega)) ?_
        rintro _ _ _ ⟨rfl, rfl, rfl⟩
        refine L.norm qA qA ?_
        refine L.move rfl rfl ?_
        refine L.buildSlice rfl bs22 (by decide) (BP.one rfl rfl rfl <| BP.doneE (out := []) rfl) (fun b48 => ?_)
        refine L.append1 rfl Try.underlying22 el3 rfl rfl qP qM rfl qO1 qI qI (fun a49 c49 => ?_)
        rw [show (F k).1.length - 1 + 1 = ((F k).1.eraseIdx i ++ [n]).length from by simp [List.length_eraseIdx]; omega]
        refine L.nilCheck rfl rfl ?_
        first | refine L.field0 rfl fo62_0 rfl ?_ | refine L.field rfl fo62_0 rfl ?_
        refine L.store sc22 rfl rfl rfl qU qE ?_
        refine L.nil ?_
        have hva : VA o n := by unfold Bad at hbad; unfold VA; omega
        have hro := hRow_ok (n := n) hok hva hk
        have hef : heardF o F n = updR F k (hRow (F k) n) := by rw [heardF, if_neg hbad, hk]
        rw [hR] at hro hef
        refine T.ownEq a49 (((F k).1.eraseIdx i ++ [n]).map e3) qP (by simp) ?_
        refine T.clEq blk (rcells a49 c49 ((F k).1.eraseIdx i ++ [n], nx)) qP (by first | rfl | (simp only [hnx])) ?_
        refine T.tblClose (a := a49) (cap := c49) ((F k).1.eraseIdx i ++ [n], nx) hro qS ?_
        rw [← hef]
        refine T.thenN ?_
        refine T.seq ?_
        refine T.region ?_
        refine L.assign rfl rfl ?_
        refine L.assign rfl rfl ?_
        refine L.nil ?_
        refine T.thenN ?_
        refine T.ret ?_
        refine T.thenR ?_
        exact T.ret2 rfl rfl rfl ⟨by rw [heardA, if_neg hbad, hk, hAsk]; first | rw [if_pos h32] | rw [if_neg h32, if_pos h57] | rw [if_neg h32, if_neg h57, if_pos h72] | rw [if_neg h32, if_neg h57, if_neg h72], rfl, rfl⟩ qD qF
      · try simp only [decide_eq_true_eq, decide_eq_false_iff_not, Bool.not_eq_true', Bool.not_eq_false', Bool.and_eq_true, Bool.or_eq_true] at h34
        obtain ⟨nx, hnx, hR⟩ : ∃ nx : Int, nx = (F k).2 ∧ hRow (F k) n = ((F k).1.eraseIdx i ++ [n], nx) := ⟨_, rfl, by rw [hRow, if_pos h32, hi, if_neg h34]; rfl⟩
        refine T.skip ?_
        refine T.thenN ?_
        refine T.seq ?_
        refine T.region ?_
        refine L.move rfl rfl ?_
        refine L.move rfl rfl ?_
        refine L.nilCheck rfl rfl ?_
        first | refine L.field0 rfl fo62_0 rfl ?_ | refine L.field rfl fo62_0 rfl ?_
        refine L.load rfl sc22 rfl qC ?_
        refine L.move rfl rfl ?_
        refine L.move rfl rfl ?_
        refine L.addN rfl rfl rfl (by omega) ?_
        refine L.call rfl (evs.cons rfl <| evs.cons rfl <| evs.cons rfl <| evs.nil) qD qS (delete_spec (i := i) (xs := (F k).1) (by omega) (by omega)) ?_
        rintro _ _ _ ⟨rfl, rfl, rfl⟩
        refine L.norm qA qA ?_
        refine L.move rfl rfl ?_
        refine L.buildSlice rfl bs22 (by decide) (BP.one rfl rfl rfl <| BP.doneE (out := []) rfl) (fun b48 => ?_)
        refine L.append1 rfl Try.underlying22 el3 rfl rfl qP qM rfl qO1 qI qI (fun a49 c49 => ?_)
        rw [show (F k).1.length - 1 + 1 = ((F k).1.eraseIdx i ++ [n]).length from by simp [List.length_eraseIdx]; omega]
        refine L.nilCheck rfl rfl ?_
        first | refine L.field0 rfl fo62_0 rfl ?_ | refine L.field rfl fo62_0 rfl ?_
        refine L.store sc22 rfl rfl rfl qU qE ?_
        refine L.nil ?_
        have hva : VA o n := by unfold Bad at hbad; unfold VA; omega
        have hro := hRow_ok (n := n) hok hva hk
        have hef : heardF o F n = updR F k (hRow (F k) n) := by rw [heardF, if_neg hbad, hk]
        rw [hR] at hro hef
        refine T.ownEq a49 (((F k).1.eraseIdx i ++ [n]).map e3) qP (by simp) ?_
        refine T.clEq blk (rcells a49 c49 ((F k).1.eraseIdx i ++ [n], nx)) qP (by first | rfl | (simp only [hnx])) ?_
        refine T.tblClose (a := a49) (cap := c49) ((F k).1.eraseIdx i ++ [n], nx) hro qS ?_
        rw [← hef]
        refine T.thenN ?_
        refine T.seq ?_
        refine T.region ?_
        refine L.assign rfl rfl ?_
        refine L.assign rfl rfl ?_
        refine L.nil ?_
        refine T.thenN ?_
        refine T.ret ?_
        refine T.thenR ?_
        exact T.ret2 rfl rfl rfl ⟨by rw [heardA, if_neg hbad, hk, hAsk]; first | rw [if_pos h32] | rw [if_neg h32, if_pos h57] | rw [if_neg h32, if_neg h57, if_pos h72] | rw [if_neg h32, if_neg h57, if_neg h72], rfl, rfl⟩ qD qF
    · try simp only [decide_eq_true_eq, decide_eq_false_iff_not, Bool.not_eq_true', Bool.not_eq_false', Bool.and_eq_true, Bool.or_eq_true] at h32
      refine T.skip ?_
      refine T.thenN ?_
      refine T.seq ?_
      refine T.seq ?_
      refine T.region ?_
      refine L.move rfl rfl ?_
      refine L.nilCheck rfl rfl ?_
      first | refine L.field0 rfl fo62_0 rfl ?_ | refine L.field rfl fo62_0 rfl ?_
      refine L.load rfl sc22 rfl qC ?_
      refine L.lenSl rfl Try.underlying22 rfl ?_
      refine L.ltI rfl rfl rfl ?_
      refine L.nil ?_
      refine T.thenN ?_
      refine T.cond rfl (fun h57 => ?_) (fun h57 => ?_)
      · try simp only [decide_eq_true_eq, decide_eq_false_iff_not, Bool.not_eq_true', Bool.not_eq_false', Bool.and_eq_true, Bool.or_eq_true] at h57
        have hR : hRow (F k) n = ((F k).1 ++ [n], (F k).2) := by rw [hRow, if_neg h32, if_pos h57]
        refine T.seq ?_
        refine T.region ?_
        refine L.move rfl rfl ?_
        refine L.move rfl rfl ?_
        refine L.nilCheck rfl rfl ?_
        first | refine L.field0 rfl fo62_0 rfl ?_ | refine L.field rfl fo62_0 rfl ?_
        refine L.load rfl sc22 rfl qC ?_
        refine L.move rfl rfl ?_
        refine L.buildSlice rfl bs22 (by decide) (BP.one rfl rfl rfl <| BP.doneE (out := []) rfl) (fun b64 => ?_)
        refine L.append1 rfl Try.underlying22 el3 rfl rfl qP qM rfl qO1 qI qI (fun a65 c65 => ?_)
        rw [show (F k).1.length + 1 = ((F k).1 ++ [n]).length from by simp]
        refine L.nilCheck rfl rfl ?_
        first | refine L.field0 rfl fo62_0 rfl ?_ | refine L.field rfl fo62_0 rfl ?_
        refine L.store sc22 rfl rfl rfl qU qE ?_
        refine L.nil ?_
        have hva : VA o n := by unfold Bad at hbad; unfold VA; omega
        have hro := hRow_ok (n := n) hok hva hk
        have hef : heardF o F n = updR F k (hRow (F k) n) := by rw [heardF, if_neg hbad, hk]
        rw [hR] at hro hef
        refine T.ownEq a65 (((F k).1 ++ [n]).map e3) qP (by simp) ?_
        refine T.clEq blk (rcells a65 c65 ((F k).1 ++ [n], (F k).2)) qP (by first | rfl | (simp only [hnx])) ?_
        refine T.tblClose (a := a65) (cap := c65) ((F k).1 ++ [n], (F k).2) hro qS ?_
        rw [← hef]
        refine T.thenN ?_
        refine T.seq ?_
        refine T.region ?_
        refine L.assign rfl rfl ?_
        refine L.assign rfl rfl ?_
        refine L.nil ?_
        refine T.thenN ?_
        refine T.ret ?_
        refine T.thenR ?_
        exact T.ret2 rfl rfl rfl ⟨by rw [heardA, if_neg hbad, hk, hAsk]; first | rw [if_pos h32] | rw [if_neg h32, if_pos h57] | rw [if_neg h32, if_neg h57, if_pos h72] | rw [if_neg h32, if_neg h57, if_neg h72], rfl, rfl⟩ qD qF
      · try simp only [decide_eq_true_eq, decide_eq_false_iff_not, Bool.not_eq_true', Bool.not_eq_false', Bool.and_eq_true, Bool.or_eq_true] at h57
        refine T.skip ?_
        refine T.thenN ?_
        refine T.seq ?_
        refine T.seq ?_
        refine T.region ?_
        refine L.move rfl rfl ?_
        refine L.nilCheck rfl rfl ?_
        first | refine L.field0 rfl fo62_1 rfl ?_ | refine L.field rfl fo62_1 rfl ?_
        refine L.load rfl sc3 rfl qC ?_
        refine L.ltI rfl rfl rfl ?_
        refine L.nil ?_
        refine T.thenN ?_
        refine T.cond rfl (fun h72 => ?_) (fun h72 => ?_)
        · try simp only [decide_eq_true_eq, decide_eq_false_iff_not, Bool.not_eq_true', Bool.not_eq_false', Bool.and_eq_true, Bool.or_eq_true] at h72
          have hR : hRow (F k) n = ((F k).1, n) := by rw [hRow, if_neg h32, if_neg h57, if_pos h72]
          refine T.ownNe (a := a) qM (by omega) (fun rb ro ha => ?_)
          subst ha
          have hgd : (F k).1[0]? = some (gd (F k).1 0) := gd_get (by omega)
          refine T.seq ?_
          refine T.region ?_
          refine L.move rfl rfl ?_
          refine L.move rfl rfl ?_
          refine L.nilCheck rfl rfl ?_
          first | refine L.field0 rfl fo62_1 rfl ?_ | refine L.field rfl fo62_1 rfl ?_
          refine L.store sc3 rfl rfl rfl qU qE ?_
          refine L.nil ?_
          refine T.thenN ?_
          refine T.seq ?_
          refine T.region ?_
          refine L.move rfl rfl ?_
          refine L.nilCheck rfl rfl ?_
          first | refine L.field0 rfl fo62_0 rfl ?_ | refine L.field rfl fo62_0 rfl ?_
          refine L.load rfl sc22 rfl qC ?_
          refine L.idxG (i := 0) rfl Try.underlying22 sz3 rfl rfl (by first | rfl | omega | (simp; done)) qI ?_
          refine L.load rfl sc3 rfl qC ?_
          refine L.assign rfl rfl ?_
          refine L.assign rfl rfl ?_
          refine L.nil ?_
          have hva : VA o n := by unfold Bad at hbad; unfold VA; omega
          have hro := hRow_ok (n := n) hok hva hk
          have hef : heardF o F n = updR F k (hRow (F k) n) := by rw [heardF, if_neg hbad, hk]
          rw [hR] at hro hef
          refine T.clEq blk (rcells _ cap ((F k).1, n)) qP (by first | rfl | (simp only [hnx])) ?_
          refine T.tblClose (a := _) (cap := cap) ((F k).1, n) hro qS ?_
          rw [← hef]
          refine T.thenN ?_
          refine T.ret ?_
          refine T.thenR ?_
          exact T.ret2 rfl rfl rfl ⟨by rw [heardA, if_neg hbad, hk, hAsk]; first | rw [if_pos h32] | rw [if_neg h32, if_pos h57] | rw [if_neg h32, if_neg h57, if_pos h72] | rw [if_neg h32, if_neg h57, if_neg h72], rfl, rfl⟩ qD qF
        · try simp only [decide_eq_true_eq, decide_eq_false_iff_not, Bool.not_eq_true', Bool.not_eq_false', Bool.and_eq_true, Bool.or_eq_true] at h72
          have hR : hRow (F k) n = ((F k).1, (F k).2) := by rw [hRow, if_neg h32, if_neg h57, if_neg h72]
          refine T.skip ?_
          refine T.thenN ?_
          refine T.seq ?_
          have hva : VA o n := by unfold Bad at hbad; unfold VA; omega
          have hro := hRow_ok (n := n) hok hva hk
          have hef : heardF o F n = updR F k (hRow (F k) n) := by rw [heardF, if_neg hbad, hk]
          rw [hR] at hro hef
          refine T.clEq blk (rcells a cap ((F k).1, (F k).2)) qP (by first | rfl | (simp only [hnx])) ?_
          refine T.tblClose (a := a) (cap := cap) ((F k).1, (F k).2) hro qS ?_
          rw [← hef]
          refine T.region ?_
          refine L.assign rfl rfl ?_
          refine L.assign rfl rfl ?_
          refine L.nil ?_
          refine T.thenN ?_
          refine T.ret ?_
          exact T.ret2 rfl rfl rfl ⟨by rw [heardA, if_neg hbad, hk, hAsk]; first | rw [if_pos h32] | rw [if_neg h32, if_pos h57] | rw [if_neg h32, if_neg h57, if_pos h72] | rw [if_neg h32, if_neg h57, if_neg h72], rfl, rfl⟩ qD qF
end Cv
