/-
  The walks: the reference of reading.
-/
import Derived.Test.YtcilkdnbbebjgaaGreatUa11
import Derived.Test.YtcilkdnbbebjgaaGreatProg
import Derived.KernelRfl
set_option linter.unusedVariables false
set_option linter.unusedSimpArgs false
set_option linter.unusedSectionVars false
set_option maxRecDepth 10000
namespace Cv
open Go Go.Proofs
theorem intR_err {b : Bl} {top : Nat} (h : (intR b top).2.err = 0) : b.err = 0 := by
  have h1 : (numR b).2.err = 0 := Decidable.byContradiction fun k => by
    unfold intR at h; rw [if_pos k] at h; exact k h
  have h2 : (bytB b 1).2.err = 0 := Decidable.byContradiction fun k => by
    unfold numR at h1; rw [if_pos k] at h1; exact k h1
  exact (byt_len (by decide) h2).2
theorem idsF_err {b : Bl} {top : Nat} (h : (idsF b top).2.err = 0) : (intR b top).2.err = 0 := Decidable.byContradiction fun k => by
  have e : (idsF b top).2 = (idsL (intR b top).1 (intR b top).2).2 := rfl
  rw [e, idsL_err k] at h; exact k h
theorem close_err {b : Bl} (h : closeE b = 0) : b.err = 0 := by
  unfold closeE at h
  split at h
  · rename_i k; exact k.1
  · exact h

set_option maxHeartbeats 400000 in
theorem rparse11_spec {s : List UInt8} (hs : s.length ≤ 1000000000) : Spec Tryz.prog 21 [S s] [] [] (fun v D' M' => ∃ (a' : Option Addr) (n' c' : Nat) (cs : List Value), v = .tuple #[.agg cs.toArray, .int .i64 (parI s).2.2] ∧ (cs.length = 3) ∧ ((∀ q ∈ cs, q.oneCell' = true)) ∧ ((parI s).2.1.length = n') ∧ (((parI s).2.2 = 0 → cs = inR (parI s).1 a' n' c')) ∧ D' = [] ∧ M' = [own 1 9 a' n' c' (((parI s).2.1.map (·.1)).map ys)]) := by
  refine Spec.intro (n := 43) Tryz.func21 rfl rfl (by decide) (Nat.le_of_ble_eq_true rfl) rfl (fun _ => qA) (fun _ => qA) ?_
  intro σ D M
  obtain ⟨z1, h1⟩ : ∃ z, z = idR ⟨s, 0⟩ := ⟨_, rfl⟩
  obtain ⟨z2, h2⟩ : ∃ z, z = intR z1.2 32768 := ⟨_, rfl⟩
  obtain ⟨z3, h3⟩ : ∃ z, z = idsF z2.2 8 := ⟨_, rfl⟩
  have hP : parI s = (if closeE z3.2 ≠ 0 then (zP, [], closeE z3.2) else if chkI (z1.1, (z2.1 : Int)) z3.1 ≠ 0 then (zP, [], chkI (z1.1, (z2.1 : Int)) z3.1) else ((z1.1, (z2.1 : Int)), z3.1, 0)) := by rw [h3, h2, h1]; rfl
  have hb1 : (bytB (⟨s, 0⟩ : Bl) ((32 : Nat) : Int)).2 = z1.2 := by rw [h1]; rfl
  have hle := int_le z1.2 32768
  rw [← h2] at hle
  have hl8 := idsF_len z2.2 8
  rw [← h3] at hl8
  refine T.seq ?_
  refine T.region ?_
  refine L.alloc rfl ze43 (fun b2 => ?_)
  refine L.assign rfl rfl ?_
  refine L.nil ?_
  refine T.thenN ?_
  refine T.seq ?_
  refine T.region ?_
  refine L.move rfl rfl ?_
  refine L.build rfl bu105 (BP.one rfl rfl rfl <| BP.doneE (out := [Value.int .i64 0]) rfl) ?_
  refine L.callF rfl (evs.cons rfl <| evs.cons rfl <| evs.nil) qD qS (rbytes_spec (b := ⟨s, 0⟩) (n := 32) (by decide)) (by rintro u D1 M1 ⟨rfl, rfl, rfl⟩; exact ⟨rfl, _, qA, qF⟩) ?_
  rw [hb1]
  refine L.move rfl rfl ?_
  refine L.extract rfl rfl rfl ?_
  refine L.extract rfl rfl rfl ?_
  refine L.alloc rfl ze105 (fun b4 => ?_)
  refine L.storeA ag105 rfl rfl qL qO qU qW ?_
  refine L.assign rfl rfl ?_
  refine L.nil ?_
  refine T.thenN ?_
  refine T.seq ?_
  refine T.region ?_
  refine L.loadA rfl ag105 rfl qN ?_
  refine L.callF rfl (evs.cons rfl <| evs.cons rfl <| evs.nil) qD qS (rint_spec (b := z1.2) (top := 32768) (by decide)) (by rintro u D1 M1 ⟨rfl, rfl, rfl⟩; exact ⟨rfl, _, qA, qF⟩) ?_
  rw [← h2]
  refine L.move rfl rfl ?_
  refine L.extract rfl rfl rfl ?_
  refine L.extract rfl rfl rfl ?_
  refine L.storeA ag105 rfl rfl qL qO qU qW ?_
  refine L.assign rfl rfl ?_
  refine L.nil ?_
  refine T.thenN ?_
  refine T.seq ?_
  refine T.region ?_
  refine L.loadA rfl ag105 rfl qN ?_
  refine L.call rfl (evs.cons rfl <| evs.cons rfl <| evs.nil) qD qS (rids_spec (b := z2.2) (top := 8) (by decide)) ?_
  rintro _ _ _ ⟨ia, il, ic, rfl, hil, rfl, rfl⟩
  refine L.norm qA qA ?_
  rw [← h3] at hil ⊢
  refine L.move rfl rfl ?_
  refine L.extract rfl rfl rfl ?_
  refine L.extract rfl rfl rfl ?_
  refine L.storeA ag105 rfl rfl qL qO qU qW ?_
  refine L.assign rfl rfl ?_
  refine L.nil ?_
  refine T.thenN ?_
  refine T.seq ?_
  refine T.seq ?_
  refine T.region ?_
  refine L.loadA rfl ag105 rfl qN ?_
  refine L.callF rfl (evs.cons rfl <| evs.nil) qD qS (rclose_spec (b := z3.2)) (by rintro u D1 M1 ⟨rfl, rfl, rfl⟩; exact ⟨rfl, _, qA, qF⟩) ?_
  refine L.neI rfl rfl rfl ?_
  refine L.nil ?_
  refine T.thenN ?_
  refine T.cond rfl (fun h27 => ?_) (fun h27 => ?_)
  · try simp only [decide_eq_true_eq, decide_eq_false_iff_not, Bool.not_eq_true', Bool.not_eq_false', Bool.and_eq_true, Bool.or_eq_true] at h27
    refine T.seq ?_
    refine T.region ?_
    refine L.build rfl bu43 (BP.doneE (out := [S [], Value.int .i64 0, Value.slice none 0 0]) rfl) ?_
    refine L.loadA rfl ag105 rfl qN ?_
    refine L.callF rfl (evs.cons rfl <| evs.nil) qD qS (rclose_spec (b := z3.2)) (by rintro u D1 M1 ⟨rfl, rfl, rfl⟩; exact ⟨rfl, _, qA, qF⟩) ?_
    refine L.storeA ag43 rfl rfl qL qO qU qW ?_
    refine L.assign rfl rfl ?_
    refine L.nil ?_
    refine T.newOwn (sz := 1) (e := 9) ?_
    refine T.eqv qP (show own 1 9 none 0 0 [] = own 1 9 none 0 0 ((([] : List ID32).map (·.1)).map ys) from rfl) ?_
    refine T.thenN ?_
    refine T.ret ?_
    refine T.thenR ?_
    rw [if_pos h27] at hP
    rw [hP]
    exact T.retAT rfl ag43 rfl qN rfl ⟨none, 0, 0, _, rfl, rfl, (by intro q hq; simp only [List.mem_cons, List.not_mem_nil, or_false] at hq; rcases hq with rfl | rfl | rfl <;> rfl), rfl, fun q => absurd q h27, rfl, rfl⟩ qD qF
  · try simp only [decide_eq_true_eq, decide_eq_false_iff_not, Bool.not_eq_true', Bool.not_eq_false', Bool.and_eq_true, Bool.or_eq_true] at h27
    refine T.skip ?_
    refine T.thenN ?_
    refine T.seq ?_
    have hz3 : z3.2.err = 0 := close_err (Decidable.not_not.1 h27)
    have hz2 : z2.2.err = 0 := intR_err (idsF_err (by rw [← h3]; exact hz3))
    have hz1 : z1.2.err = 0 := intR_err (by rw [← h2]; exact hz2)
    have hid : (bytB (⟨s, 0⟩ : Bl) ((32 : Nat) : Int)).1 = z1.1.1 := by rw [h1] at hz1 ⊢; exact (id_val hz1).symm
    rw [hid]
    refine T.region ?_
    refine L.move rfl rfl ?_
    refine L.move rfl rfl ?_
    refine L.build rfl bu41 (BP.one rfl rfl rfl <| BP.one rfl rfl rfl <| BP.doneE (out := []) rfl) ?_
    refine L.move rfl rfl ?_
    refine L.build rfl bu43 (BP.agg rfl rfl (by first | with_reducible assumption | (simp; done) | (simp only [List.length_map]; with_reducible assumption) | (simp [*]; done) | rfl) (Nat.le_of_ble_eq_true rfl) qR <| BP.one rfl rfl rfl <| BP.doneE (out := []) rfl) ?_
    refine L.known (t := 35) (u := .agg (inR (z1.1, (z2.1 : Int)) ia il ic).toArray) rfl (by first | rfl | simp) ?_
    refine L.alloc rfl ze43 (fun b8 => ?_)
    refine L.storeA ag43 rfl rfl qL qO qU qW ?_
    refine L.nil ?_
    refine T.freeze (A := cl b8 43 (inR (z1.1, (z2.1 : Int)) ia il ic)) qP ?_
    refine T.thenN ?_
    refine T.seq ?_
    refine T.seq ?_
    refine T.region ?_
    refine L.loadA rfl ag43 rfl qN ?_
    refine L.callB1 (A := own 1 9 ia il ic ((z3.1.map (·.1)).map ys)) rfl (evs.cons rfl <| evs.nil) qS qP (fun z H => rsl_of_own H) (rcheck11_spec (p := (z1.1, (z2.1 : Int))) (l := z3.1) (by omega)) ?_
    rintro _ _ _ ⟨rfl, rfl, rfl⟩
    refine L.norm AppL.nil qA ?_
    refine L.neI rfl rfl rfl ?_
    refine L.nil ?_
    refine T.thenN ?_
    refine T.cond rfl (fun h38 => ?_) (fun h38 => ?_)
    · try simp only [decide_eq_true_eq, decide_eq_false_iff_not, Bool.not_eq_true', Bool.not_eq_false', Bool.and_eq_true, Bool.or_eq_true] at h38
      refine T.seq ?_
      refine T.region ?_
      refine L.build rfl bu43 (BP.doneE (out := [S [], Value.int .i64 0, Value.slice none 0 0]) rfl) ?_
      refine L.loadA rfl ag43 rfl qN ?_
      refine L.callB1 (A := own 1 9 ia il ic ((z3.1.map (·.1)).map ys)) rfl (evs.cons rfl <| evs.nil) qS qP (fun z H => rsl_of_own H) (rcheck11_spec (p := (z1.1, (z2.1 : Int))) (l := z3.1) (by omega)) ?_
      rintro _ _ _ ⟨rfl, rfl, rfl⟩
      refine L.norm AppL.nil qA ?_
      refine L.storeA ag43 rfl rfl qL qO qU qW ?_
      refine L.assign rfl rfl ?_
      refine L.nil ?_
      refine T.newOwn (sz := 1) (e := 9) ?_
      refine T.eqv qP (show own 1 9 none 0 0 [] = own 1 9 none 0 0 ((([] : List ID32).map (·.1)).map ys) from rfl) ?_
      refine T.thenN ?_
      refine T.ret ?_
      refine T.thenR ?_
      rw [if_neg h27, if_pos h38] at hP
      rw [hP]
      exact T.retAT rfl ag43 rfl qN rfl ⟨none, 0, 0, _, rfl, rfl, (by intro q hq; simp only [List.mem_cons, List.not_mem_nil, or_false] at hq; rcases hq with rfl | rfl | rfl <;> rfl), rfl, fun q => absurd q h38, rfl, rfl⟩ qD qF
    · try simp only [decide_eq_true_eq, decide_eq_false_iff_not, Bool.not_eq_true', Bool.not_eq_false', Bool.and_eq_true, Bool.or_eq_true] at h38
      refine T.skip ?_
      refine T.thenN ?_
      refine T.seq ?_
      refine T.region ?_
      refine L.loadA rfl ag43 rfl qN ?_
      refine L.storeA ag43 rfl rfl qL qO qU qW ?_
      refine L.assign rfl rfl ?_
      refine L.nil ?_
      refine T.thenN ?_
      refine T.ret ?_
      rw [if_neg h27, if_neg h38] at hP
      rw [hP]
      exact T.retAT rfl ag43 rfl qN rfl ⟨_, _, _, _, rfl, rfl, (by intro q hq; simp only [List.mem_cons, List.not_mem_nil, or_false] at hq; rcases hq with rfl | rfl | rfl <;> rfl), hil, fun _ => rfl, rfl, rfl⟩ qD qF
end Cv
