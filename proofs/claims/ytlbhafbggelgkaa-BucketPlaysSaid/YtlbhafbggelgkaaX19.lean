/-
  The walk of Knows (bucket).
-/
import Derived.Test.YtlbhafbggelgkaaW19
import Derived.Test.YtlbhafbggelgkaaProg
import Derived.KernelRfl
set_option maxRecDepth 10000
set_option linter.unusedSimpArgs false
set_option linter.unusedVariables false
namespace Cv
open Go Go.Proofs
def knowsB (o : Int) (F : Int → Row) (n : Int) : Bool := decide (¬ Bad o n) && decide (n ∈ (F (rowF o n)).1)

theorem L.tblShut {P : Program} {σ : World} {sn : Nat} {Q : Post} {K : Env} {D M N : List Asn} {ops : Array Oper} {l : List Oper} {b mb : Nat} {o : Int} {F : Int → Row} {ml : List (Int × RV)} (h : FitR o F ml) (hM : Sel [cl b 57 (hdr o mb), mp mb iK rV ml, each rA ml] M N) (next : TL none P σ sn ops Q l K D (tblA b o F :: N)) : TL none P σ sn ops Q l K D M := T.tblShut h hM next
theorem L.tblClose {P : Program} {σ : World} {sn : Nat} {Q : Post} {K : Env} {D M N : List Asn} {ops : Array Oper} {l : List Oper} {b blk cap : Nat} {a : Option Addr} {o k : Int} {F : Int → Row} (r : Row) (hm : ROk o k r) (hM : Sel [rstA b o k blk F, cl blk 62 (rcells a cap r), rO a cap r] M N) (next : TL none P σ sn ops Q l K D (tblA b o (updR F k r) :: N)) : TL none P σ sn ops Q l K D M := T.tblClose r hm hM next
set_option maxHeartbeats 400000 in
theorem knows_spec {b : Nat} {o n : Int} {F : Int → Row}  : Spec Try.prog 11 [.pointer (some ⟨b, 0, none⟩), .int .i64 n] [] [tblA b o F] (fun v D' M' => v = .bool (knowsB o F n) ∧ D' = [] ∧ M' = [tblA b o F]) := by
  refine Spec.intro (n := 29) Try.func11 rfl rfl (by decide) (Nat.le_of_ble_eq_true rfl) rfl (fun _ => qA) (fun _ => qA) ?_
  intro σ D M
  refine T.tblOpen qP (fun mb ml hF => ?_)
  have hido := idF_len o
  have h34 := hdr_len (o := o) (mb := mb)
  refine T.seq ?_
  refine T.region ?_
  refine L.assign rfl rfl ?_
  refine L.nil ?_
  refine T.thenN ?_
  refine T.seq ?_
  refine T.region ?_
  refine L.move rfl rfl ?_
  refine L.move rfl rfl ?_
  refine L.nilCheck rfl rfl ?_
  first | refine L.field0 rfl fo57_0 rfl ?_ | refine L.field rfl fo57_0 rfl ?_
  refine L.load rfl sc3 rfl qC ?_
  refine L.neI rfl rfl rfl ?_
  refine L.move rfl rfl ?_
  refine L.part (t := 11) rfl (fun h1 => ?_) (fun h1 => ?_)
  · try simp only [decide_eq_true_eq, decide_eq_false_iff_not, Bool.not_eq_true', Bool.not_eq_false', Bool.and_eq_true, Bool.or_eq_true] at h1
    refine L.guardT (dj := 11) rfl rfl rfl ?_
    refine L.move rfl rfl ?_
    refine L.guardT (dj := 11) rfl rfl rfl ?_
    refine L.geI rfl rfl rfl ?_
    refine L.pickT rfl rfl rfl ?_
    refine L.move rfl rfl ?_
    refine L.part (t := 15) rfl (fun h2 => ?_) (fun h2 => ?_)
    · try simp only [decide_eq_true_eq, decide_eq_false_iff_not, Bool.not_eq_true', Bool.not_eq_false', Bool.and_eq_true, Bool.or_eq_true] at h2
      refine L.guardT (dj := 15) rfl rfl rfl ?_
      refine L.move rfl rfl ?_
      refine L.guardT (dj := 15) rfl rfl rfl ?_
      refine L.ltI rfl rfl rfl ?_
      refine L.pickT rfl rfl rfl ?_
      refine L.move rfl rfl ?_
      refine L.tblShut hF qS ?_
      refine L.part (t := 19) rfl (fun h3 => ?_) (fun h3 => ?_)
      · try simp only [decide_eq_true_eq, decide_eq_false_iff_not, Bool.not_eq_true', Bool.not_eq_false', Bool.and_eq_true, Bool.or_eq_true] at h3
        refine L.guardT (dj := 19) rfl rfl rfl ?_
        refine L.move rfl rfl ?_
        refine L.guardT (dj := 19) rfl rfl rfl ?_
        refine L.move rfl rfl ?_
        refine L.guardT (dj := 19) rfl rfl rfl ?_
        refine L.call rfl (evs.cons rfl <| evs.cons rfl <| evs.nil) qD qS (tat_spec) ?_
        rintro _ _ _ ⟨blk, a, cap, rfl, rfl, rfl⟩
        refine L.norm qA qA ?_
        refine L.rstOk qM (fun hok => ?_)
        have hr4 := hok.2.2.1
        obtain ⟨k, hk⟩ : ∃ k, rowF o n = k := ⟨_, rfl⟩
        rw [hk] at hok hr4 ⊢
        refine L.guardT (dj := 19) rfl rfl rfl ?_
        refine L.nilCheck rfl rfl ?_
        refine L.guardT (dj := 19) rfl rfl rfl ?_
        first | refine L.field0 rfl fo62_0 rfl ?_ | refine L.field rfl fo62_0 rfl ?_
        refine L.guardT (dj := 19) rfl rfl rfl ?_
        refine L.load rfl sc22 rfl qC ?_
        refine L.guardT (dj := 19) rfl rfl rfl ?_
        refine L.move rfl rfl ?_
        refine L.guardT (dj := 19) rfl rfl rfl ?_
        refine L.callB1 rfl (evs.cons rfl <| evs.cons rfl <| evs.nil) qS qP (fun z H => rsl_of_own H) (contains_spec (xs := (F k).1) (by omega)) ?_
        rintro _ _ _ ⟨rfl, rfl, rfl⟩
        refine L.norm AppL.nil qA ?_
        refine L.tblClose (a := a) (cap := cap) (F k) hok qS ?_
        rw [updR_self]
        refine L.pickT rfl rfl rfl ?_
        refine L.assign rfl rfl ?_
        refine L.nil ?_
        refine T.thenN ?_
        refine T.ret ?_
        exact T.ret1 rfl rfl ⟨congrArg Value.bool (by rw [knowsB, hk, decide_eq_true (show ¬ Bad o n from by unfold Bad; omega)]; rfl), rfl, rfl⟩ qD qF
      · try simp only [decide_eq_true_eq, decide_eq_false_iff_not, Bool.not_eq_true', Bool.not_eq_false', Bool.and_eq_true, Bool.or_eq_true] at h3
        refine L.guardF (dj := 19) (c := false) rfl rfl rfl rfl rfl (by decide) ?_
        refine L.guardF (dj := 19) (c := false) rfl rfl rfl rfl rfl (by decide) ?_
        refine L.guardF (dj := 19) (c := false) rfl rfl rfl rfl rfl (by decide) ?_
        refine L.guardF (dj := 19) (c := false) rfl rfl rfl rfl rfl (by decide) ?_
        refine L.guardF (dj := 19) (c := false) rfl rfl rfl rfl rfl (by decide) ?_
        refine L.guardF (dj := 19) (c := false) rfl rfl rfl rfl rfl (by decide) ?_
        refine L.guardF (dj := 19) (c := false) rfl rfl rfl rfl rfl (by decide) ?_
        refine L.guardF (dj := 19) (c := false) rfl rfl rfl rfl rfl (by decide) ?_
        refine L.pickF rfl rfl rfl ?_
        refine L.assign rfl rfl ?_
        refine L.nil ?_
        refine T.thenN ?_
        refine T.ret ?_
        exact T.ret1 rfl rfl ⟨congrArg Value.bool (by rw [knowsB, decide_eq_false (show ¬ ¬ Bad o n from fun hq => hq (by unfold Bad; omega))]; rfl), rfl, rfl⟩ qD qF
    · try simp only [decide_eq_true_eq, decide_eq_false_iff_not, Bool.not_eq_true', Bool.not_eq_false', Bool.and_eq_true, Bool.or_eq_true] at h2
      refine L.guardF (dj := 15) (c := false) rfl rfl rfl rfl rfl (by decide) ?_
      refine L.guardF (dj := 15) (c := false) rfl rfl rfl rfl rfl (by decide) ?_
      refine L.pickF rfl rfl rfl ?_
      refine L.move rfl rfl ?_
      refine L.tblShut hF qS ?_
      refine L.guardF (dj := 19) (c := false) rfl rfl rfl rfl rfl (by decide) ?_
      refine L.guardF (dj := 19) (c := false) rfl rfl rfl rfl rfl (by decide) ?_
      refine L.guardF (dj := 19) (c := false) rfl rfl rfl rfl rfl (by decide) ?_
      refine L.guardF (dj := 19) (c := false) rfl rfl rfl rfl rfl (by decide) ?_
      refine L.guardF (dj := 19) (c := false) rfl rfl rfl rfl rfl (by decide) ?_
      refine L.guardF (dj := 19) (c := false) rfl rfl rfl rfl rfl (by decide) ?_
      refine L.guardF (dj := 19) (c := false) rfl rfl rfl rfl rfl (by decide) ?_
      refine L.guardF (dj := 19) (c := false) rfl rfl rfl rfl rfl (by decide) ?_
      refine L.pickF rfl rfl rfl ?_
      refine L.assign rfl rfl ?_
      refine L.nil ?_
      refine T.thenN ?_
      refine T.ret ?_
      exact T.ret1 rfl rfl ⟨congrArg Value.bool (by rw [knowsB, decide_eq_false (show ¬ ¬ Bad o n from fun hq => hq (by unfold Bad; omega))]; rfl), rfl, rfl⟩ qD qF
  · try simp only [decide_eq_true_eq, decide_eq_false_iff_not, Bool.not_eq_true', Bool.not_eq_false', Bool.and_eq_true, Bool.or_eq_true] at h1
    refine L.guardF (dj := 11) (c := false) rfl rfl rfl rfl rfl (by decide) ?_
    refine L.guardF (dj := 11) (c := false) rfl rfl rfl rfl rfl (by decide) ?_
    refine L.pickF rfl rfl rfl ?_
    refine L.move rfl rfl ?_
    refine L.guardF (dj := 15) (c := false) rfl rfl rfl rfl rfl (by decide) ?_
    refine L.guardF (dj := 15) (c := false) rfl rfl rfl rfl rfl (by decide) ?_
    refine L.pickF rfl rfl rfl ?_
    refine L.move rfl rfl ?_
    refine L.tblShut hF qS ?_
    refine L.guardF (dj := 19) (c := false) rfl rfl rfl rfl rfl (by decide) ?_
    refine L.guardF (dj := 19) (c := false) rfl rfl rfl rfl rfl (by decide) ?_
    refine L.guardF (dj := 19) (c := false) rfl rfl rfl rfl rfl (by decide) ?_
    refine L.guardF (dj := 19) (c := false) rfl rfl rfl rfl rfl (by decide) ?_
    refine L.guardF (dj := 19) (c := false) rfl rfl rfl rfl rfl (by decide) ?_
    refine L.guardF (dj := 19) (c := false) rfl rfl rfl rfl rfl (by decide) ?_
    refine L.guardF (dj := 19) (c := false) rfl rfl rfl rfl rfl (by decide) ?_
    refine L.guardF (dj := 19) (c := false) rfl rfl rfl rfl rfl (by decide) ?_
    refine L.pickF rfl rfl rfl ?_
    refine L.assign rfl rfl ?_
    refine L.nil ?_
    refine T.thenN ?_
    refine T.ret ?_
    exact T.ret1 rfl rfl ⟨congrArg Value.bool (by rw [knowsB, decide_eq_false (show ¬ ¬ Bad o n from fun hq => hq (by unfold Bad; omega))]; rfl), rfl, rfl⟩ qD qF
end Cv
