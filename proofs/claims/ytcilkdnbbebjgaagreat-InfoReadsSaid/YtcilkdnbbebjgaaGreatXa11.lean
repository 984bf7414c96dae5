/-
  The walks: the law on reading.
-/
import Derived.Test.YtcilkdnbbebjgaaGreatWa11
import Derived.Test.YtcilkdnbbebjgaaGreatP06
import Derived.Test.YtcilkdnbbebjgaaGreatProg
import Derived.KernelRfl
set_option linter.unusedVariables false
set_option linter.unusedSimpArgs false
set_option linter.unusedSectionVars false
set_option maxRecDepth 10000
namespace Cv
open Go Go.Proofs
/-! ## what was read is what is written: plain -/
theorem id_of {b : Bl} (h : (idR b).2.err = 0) : b.err = 0 ∧ b.left = (idR b).1.1 ++ (idR b).2.left := by
  have h0 := (byt_len (n := 32) (by decide) h).2
  rw [id_val h]
  show b.err = 0 ∧ b.left = (bytB b 32).1 ++ (bytB b 32).2.left
  have h' : (bytB b 32).2.err = 0 := h
  refine ⟨h0, ?_⟩
  by_cases k : ((32 : Int) < 0 ∨ (b.left.length : Int) < 32)
  · rw [byt_out h0 k] at h'; exact absurd h' (by decide)
  · rw [byt_ok h0 k]; exact (List.take_append_drop ..).symm
theorem idsL_of : ∀ (n : Nat) (b : Bl), (idsL n b).2.err = 0 → b.left = (idsL n b).1.flatMap (·.1) ++ (idsL n b).2.left ∧ (idsL n b).1.length = n
  | 0, b, h => ⟨by simp [idsL], rfl⟩
  | n + 1, b, h => by
    by_cases hb : b.err ≠ 0
    · rw [idsL_err hb] at h; exact absurd h hb
    · rw [idsL, if_neg hb] at h ⊢
      have h2 : (idR b).2.err = 0 := Decidable.byContradiction fun k => by
        have h3 : (idsL n (idR b).2).2.err = 0 := h
        rw [idsL_err k] at h3; exact k h3
      obtain ⟨h3, h4⟩ := idsL_of n (idR b).2 h
      refine ⟨?_, by rw [List.length_cons, h4]⟩
      rw [(id_of h2).2, h3]
      simp
theorem parI_ok {s : List UInt8} (h : (parI s).2.2 = 0) : parI s = (((parZ s).1.1, ((parZ s).2.1.1 : Int)), (parZ s).2.2.1, 0) ∧ closeE (parZ s).2.2.2 = 0 := by
  unfold parI at h ⊢
  split at h
  · rename_i k; exact absurd h k
  · rename_i k
    rw [if_neg k]
    split at h
    · rename_i k2; exact absurd h k2
    · rename_i k2; rw [if_neg k2]; exact ⟨rfl, Decidable.not_not.1 k⟩
theorem parI_len (s : List UInt8) : (parI s).2.1.length ≤ 8 := by
  have h : (parZ s).2.2.1.length ≤ 8 := idsF_len _ 8
  unfold parI
  split
  · simp
  · split
    · simp
    · exact h
theorem parI_size (s : List UInt8) : (parI s).1.2 ≤ 32768 := by
  have h : (parZ s).2.1.1 ≤ 32768 := int_le _ 32768
  unfold parI
  split
  · show (0 : Int) ≤ 32768; decide
  · split
    · show (0 : Int) ≤ 32768; decide
    · show ((parZ s).2.1.1 : Int) ≤ 32768
      omega
theorem parI_text {s : List UInt8} (h : (parI s).2.2 = 0) : inT (parI s).1 (parI s).2.1 = s := by
  obtain ⟨e, hc⟩ := parI_ok h
  have hl : (parZ s).2.2.2.left = [] := Decidable.byContradiction fun k => by
    have h0 := close_err hc
    unfold closeE at hc
    rw [if_pos ⟨h0, k⟩] at hc; exact absurd hc (by decide)
  rw [e]
  have e3 : (idsF (intR (idR ⟨s, 0⟩).2 32768).2 8).2.err = 0 := close_err hc
  have e2 := idsF_err e3
  have f0 := intR_err e2
  have f1 := intR_err f0
  obtain ⟨_, g1⟩ := id_of f1
  obtain ⟨_, g2, _⟩ := int_of f0
  obtain ⟨_, g3, _⟩ := int_of e2
  have e4 : (idsL (intR (intR (idR ⟨s, 0⟩).2 32768).2 8).1 (intR (intR (idR ⟨s, 0⟩).2 32768).2 8).2).2.err = 0 := e3
  obtain ⟨g4, g5⟩ := idsL_of _ _ e4
  have hF : (idsF (intR (idR ⟨s, 0⟩).2 32768).2 8).1 = (idsL (intR (intR (idR ⟨s, 0⟩).2 32768).2 8).1 (intR (intR (idR ⟨s, 0⟩).2 32768).2 8).2).1 := by
    unfold idsF
    exact if_neg (fun k => k e4)
  have hl' : (idsL (intR (intR (idR ⟨s, 0⟩).2 32768).2 8).1 (intR (intR (idR ⟨s, 0⟩).2 32768).2 8).2).2.left = [] := hl
  rw [hl', List.append_nil] at g4
  show inT ((idR ⟨s, 0⟩).1, ((intR (idR ⟨s, 0⟩).2 32768).1 : Int)) (idsF (intR (idR ⟨s, 0⟩).2 32768).2 8).1 = s
  unfold inT idsB idsI
  rw [hF, List.take_length, g5, ← g4, ← g3]
  show (idR ⟨s, 0⟩).1.1 ++ numB (((intR (idR ⟨s, 0⟩).2 32768).1 : Int)).toNat ++ _ = s
  rw [Int.toNat_natCast, List.append_assoc, ← g2, ← g1]

set_option maxHeartbeats 400000 in
theorem infoReads_spec {s : List UInt8}  : Spec Tryz.prog 4 [S s] [] [] (fun v D' M' => v = .bool true ∧ D' = [] ∧ M' = []) := by
  refine Spec.intro (n := 42) Tryz.func4 rfl rfl (by decide) (Nat.le_of_ble_eq_true rfl) rfl (fun _ => qA) (fun _ => qA) ?_
  intro σ D M
  obtain ⟨sq, hu⟩ : ∃ z, z = s.take 400 := ⟨_, rfl⟩
  have hul : sq.length ≤ 400 := by rw [hu, List.length_take]; omega
  have hp8 := parI_len sq
  have hps := parI_size sq
  have hp32 := (parI sq).1.1.2
  refine T.seq ?_
  refine T.region ?_
  refine L.assign rfl rfl ?_
  refine L.nil ?_
  refine T.thenN ?_
  refine T.seq ?_
  refine T.region ?_
  refine L.move rfl rfl ?_
  refine L.callF rfl (evs.cons rfl <| evs.cons rfl <| evs.nil) qD qS (cut_spec (n := 400)) (by rintro u D1 M1 ⟨rfl, rfl, rfl⟩; exact ⟨rfl, _, qA, qF⟩) ?_
  rw [← hu]
  refine L.assign rfl rfl ?_
  refine L.nil ?_
  refine T.thenN ?_
  refine T.seq ?_
  refine T.region ?_
  refine L.move rfl rfl ?_
  refine L.call rfl (evs.cons rfl <| evs.nil) qD qS (iparse_spec (s := sq) (by omega)) ?_
  rintro _ _ _ ⟨qa, qn, qc, rfl, hqn, rfl, rfl⟩
  refine L.norm qA qA ?_
  have hin := inC_len (parI sq).1 qa qn qc
  refine L.move rfl rfl ?_
  refine L.extract rfl rfl rfl ?_
  refine L.extract rfl rfl rfl ?_
  refine L.alloc rfl ze35 (fun b3 => ?_)
  refine L.storeA ag35 rfl rfl qL qO qU qW ?_
  refine L.assign rfl rfl ?_
  refine L.nil ?_
  refine T.freeze (A := cl b3 35 (inC (parI sq).1 qa qn qc)) qP ?_
  refine T.thenN ?_
  refine T.seq ?_
  refine T.region ?_
  refine L.move rfl rfl ?_
  refine L.call rfl (evs.cons rfl <| evs.nil) qD qS (rparse11_spec (s := sq) (by omega)) ?_
  rintro _ _ _ ⟨ra, rn, rc, cs, rfl, hcs, hco, hrn, hce, rfl, rfl⟩
  refine L.norm qA qA ?_
  refine L.ownRsl (rows := ((parI sq).2.1.map (·.1)).map ys) qP ?_
  refine L.move rfl rfl ?_
  refine L.extract rfl rfl rfl ?_
  refine L.extract rfl rfl rfl ?_
  refine L.alloc rfl ze43 (fun b5 => ?_)
  refine L.storeA ag43 rfl rfl qL qO qU qW ?_
  refine L.assign rfl rfl ?_
  refine L.nil ?_
  refine T.freeze (A := cl b5 43 cs) qP ?_
  refine T.thenN ?_
  refine T.seq ?_
  by_cases hf : (parI sq).2.2 = 0
  · skip
    obtain hcq := hce hf
    subst hcq
    refine T.regionA (clsL [2, 1, 1, 1, 1, 1, 1, 1, 1, 1, 1, 2, 1, 2, 1, 1, 1, 2, 1, 1, 1, 1, 1, 1]) (by kernel_rfl) ?_
    refine A.branch (is := [0]) (by kernel_rfl) (by decide) (Each.cons rfl ?_ <| Each.nil) 
    refine L.callF rfl (evs.nil) qD qS (awake11_spec) (by rintro u D1 M1 ⟨rfl, rfl, rfl⟩; exact ⟨rfl, _, qA, qF⟩) ?_
    refine A.backT rfl qD ?_
    refine A.takeP (i := 1) rfl rfl rfl rfl (by kernel_rfl) (by kernel_rfl) (by kernel_rfl) rfl qD ?_
    refine L.move rfl rfl ?_
    refine A.took ?_
    refine A.known (t := 20) rfl (show _ = Value.bool true from rfl) ?_
    refine A.takeP (i := 2) rfl rfl rfl rfl (by kernel_rfl) (by kernel_rfl) (by kernel_rfl) rfl qD ?_
    refine L.guardT (dj := 20) rfl rfl rfl ?_
    refine L.move rfl rfl ?_
    refine A.took ?_
    refine A.takeP (i := 3) rfl rfl rfl rfl (by kernel_rfl) (by kernel_rfl) (by kernel_rfl) rfl qD ?_
    refine L.guardT (dj := 20) rfl rfl rfl ?_
    refine L.move rfl rfl ?_
    refine A.took ?_
    refine A.takeP (i := 4) rfl rfl rfl rfl (by kernel_rfl) (by kernel_rfl) (by kernel_rfl) rfl qD ?_
    refine L.guardT (dj := 20) rfl rfl rfl ?_
    refine L.eqI rfl rfl rfl ?_
    refine A.took ?_
    refine A.takeP (i := 5) rfl rfl rfl rfl (by kernel_rfl) (by kernel_rfl) (by kernel_rfl) rfl qD ?_
    refine L.pickT rfl rfl rfl ?_
    refine A.took ?_
    refine A.takeP (i := 6) rfl rfl rfl rfl (by kernel_rfl) (by kernel_rfl) (by kernel_rfl) rfl qD ?_
    refine L.move rfl rfl ?_
    refine A.took ?_
    refine A.known (t := 25) rfl (show _ = Value.bool true from congrArg Value.bool (by simp)) ?_
    refine A.takeP (i := 7) rfl rfl rfl rfl (by kernel_rfl) (by kernel_rfl) (by kernel_rfl) rfl qD ?_
    refine L.guardT (dj := 25) rfl rfl rfl ?_
    refine L.move rfl rfl ?_
    refine A.took ?_
    refine A.takeP (i := 8) rfl rfl rfl rfl (by kernel_rfl) (by kernel_rfl) (by kernel_rfl) rfl qD ?_
    refine L.guardT (dj := 25) rfl rfl rfl ?_
    refine L.neI rfl rfl rfl ?_
    refine A.took ?_
    refine A.takeP (i := 9) rfl rfl rfl rfl (by kernel_rfl) (by kernel_rfl) (by kernel_rfl) rfl qD ?_
    refine L.guardT (dj := 25) rfl rfl rfl ?_
    refine L.move rfl rfl ?_
    refine A.took ?_
    refine A.known (t := 28) rfl (show _ = Value.bool false from congrArg Value.bool (decide_eq_false (fun q => q hf))) ?_
    refine A.takeP (i := 10) rfl rfl rfl rfl (by kernel_rfl) (by kernel_rfl) (by kernel_rfl) rfl qD ?_
    refine L.guardT (dj := 28) rfl rfl rfl ?_
    refine L.loadA rfl ag35 rfl qN ?_
    refine A.took ?_
    refine A.takeP (i := 12) rfl rfl rfl rfl (by kernel_rfl) (by kernel_rfl) (by kernel_rfl) rfl qD ?_
    refine L.guardT (dj := 28) rfl rfl rfl ?_
    refine L.loadA rfl ag43 rfl qN ?_
    refine A.took ?_
    refine A.branch (is := [11]) (by kernel_rfl) (by decide) (Each.cons rfl ?_ <| Each.nil) 
    refine L.guardT (dj := 28) rfl rfl rfl ?_
    refine L.call rfl (evs.cons rfl <| evs.nil) qD qS (told11_spec (l := (parI sq).2.1) (p := (parI sq).1) (by omega)) ?_
    rintro _ _ _ ⟨ta, tc, rfl, rfl, rfl⟩
    refine L.norm qA qA ?_
    refine L.ownRsl (rows := ((parI sq).2.1.map (·.1)).map ys) qP ?_
    refine A.backT rfl qD ?_
    refine A.branch (is := [13]) (by kernel_rfl) (by decide) (Each.cons rfl ?_ <| Each.nil) 
    refine L.guardT (dj := 28) rfl rfl rfl ?_
    refine L.callF rfl (evs.cons rfl <| evs.cons rfl <| evs.nil) qD qS (same11_spec (xs := (parI sq).2.1.map (·.1)) (us := (parI sq).2.1.map (·.1)) (r := (parI sq).1.1.1) (t := (parI sq).1.1.1) (z := (parI sq).1.2) (w := (parI sq).1.2) (by omega) (by omega)) (by rintro u D1 M1 ⟨rfl, rfl, rfl⟩; exact ⟨rfl, _, qA, qF⟩) ?_
    refine A.backT rfl qD ?_
    refine A.takeP (i := 14) rfl rfl rfl rfl (by kernel_rfl) (by kernel_rfl) (by kernel_rfl) rfl qD ?_
    refine L.guardT (dj := 28) rfl rfl rfl ?_
    refine L.eqI rfl rfl rfl ?_
    refine A.took ?_
    refine A.takeP (i := 15) rfl rfl rfl rfl (by kernel_rfl) (by kernel_rfl) (by kernel_rfl) rfl qD ?_
    refine L.guardT (dj := 28) rfl rfl rfl ?_
    refine L.move rfl rfl ?_
    refine A.took ?_
    refine A.known (t := 34) rfl (show _ = Value.bool true from congrArg Value.bool (by simp)) ?_
    refine A.takeP (i := 16) rfl rfl rfl rfl (by kernel_rfl) (by kernel_rfl) (by kernel_rfl) rfl qD ?_
    refine L.guardT (dj := 34) rfl rfl rfl ?_
    refine L.loadA rfl ag35 rfl qN ?_
    refine A.took ?_
    refine A.takeP (i := 18) rfl rfl rfl rfl (by kernel_rfl) (by kernel_rfl) (by kernel_rfl) rfl qD ?_
    refine L.guardT (dj := 34) rfl rfl rfl ?_
    refine L.move rfl rfl ?_
    refine A.took ?_
    refine A.branch (is := [17]) (by kernel_rfl) (by decide) (Each.cons rfl ?_ <| Each.nil) 
    refine L.guardT (dj := 34) rfl rfl rfl ?_
    refine L.callF rfl (evs.cons rfl <| evs.nil) qD qS (itext_spec (l := (parI sq).2.1) (p := (parI sq).1) (by omega) (by omega)) (by rintro u D1 M1 ⟨rfl, rfl, rfl⟩; exact ⟨rfl, _, qA, qF⟩) ?_
    refine A.backT rfl qD ?_
    refine A.takeP (i := 19) rfl rfl rfl rfl (by kernel_rfl) (by kernel_rfl) (by kernel_rfl) rfl qD ?_
    refine L.guardT (dj := 34) rfl rfl rfl ?_
    refine L.eqS rfl rfl rfl ?_
    refine A.took ?_
    refine A.takeP (i := 20) rfl rfl rfl rfl (by kernel_rfl) (by kernel_rfl) (by kernel_rfl) rfl qD ?_
    refine L.guardT (dj := 28) rfl rfl rfl ?_
    refine L.pickT rfl rfl rfl ?_
    refine A.took ?_
    refine A.takeP (i := 21) rfl rfl rfl rfl (by kernel_rfl) (by kernel_rfl) (by kernel_rfl) rfl qD ?_
    refine L.guardT (dj := 25) rfl rfl rfl ?_
    refine L.pickF rfl rfl rfl ?_
    refine A.took ?_
    refine A.takeP (i := 22) rfl rfl rfl rfl (by kernel_rfl) (by kernel_rfl) (by kernel_rfl) rfl qD ?_
    refine L.pickT rfl rfl rfl ?_
    refine A.took ?_
    refine A.takeP (i := 23) rfl rfl rfl rfl (by kernel_rfl) (by kernel_rfl) (by kernel_rfl) rfl qD ?_
    refine L.assign rfl rfl ?_
    refine A.took ?_
    refine A.done (by kernel_rfl) ?_
    refine T.thenN ?_
    refine T.ret ?_
    exact T.ret1 rfl rfl ⟨congrArg Value.bool (decide_eq_true (parI_text hf)), rfl, rfl⟩ qD qF
  · skip
    refine T.regionA (clsL [2, 1, 1, 1, 1, 1, 1, 1, 1, 1, 1, 2, 1, 2, 1, 1, 2, 2, 2, 2, 2, 1, 1, 1]) (by kernel_rfl) ?_
    refine A.branch (is := [0]) (by kernel_rfl) (by decide) (Each.cons rfl ?_ <| Each.nil) 
    refine L.callF rfl (evs.nil) qD qS (awake11_spec) (by rintro u D1 M1 ⟨rfl, rfl, rfl⟩; exact ⟨rfl, _, qA, qF⟩) ?_
    refine A.backT rfl qD ?_
    refine A.takeP (i := 1) rfl rfl rfl rfl (by kernel_rfl) (by kernel_rfl) (by kernel_rfl) rfl qD ?_
    refine L.move rfl rfl ?_
    refine A.took ?_
    refine A.known (t := 20) rfl (show _ = Value.bool true from rfl) ?_
    refine A.takeP (i := 2) rfl rfl rfl rfl (by kernel_rfl) (by kernel_rfl) (by kernel_rfl) rfl qD ?_
    refine L.guardT (dj := 20) rfl rfl rfl ?_
    refine L.move rfl rfl ?_
    refine A.took ?_
    refine A.takeP (i := 3) rfl rfl rfl rfl (by kernel_rfl) (by kernel_rfl) (by kernel_rfl) rfl qD ?_
    refine L.guardT (dj := 20) rfl rfl rfl ?_
    refine L.move rfl rfl ?_
    refine A.took ?_
    refine A.takeP (i := 4) rfl rfl rfl rfl (by kernel_rfl) (by kernel_rfl) (by kernel_rfl) rfl qD ?_
    refine L.guardT (dj := 20) rfl rfl rfl ?_
    refine L.eqI rfl rfl rfl ?_
    refine A.took ?_
    refine A.takeP (i := 5) rfl rfl rfl rfl (by kernel_rfl) (by kernel_rfl) (by kernel_rfl) rfl qD ?_
    refine L.pickT rfl rfl rfl ?_
    refine A.took ?_
    refine A.takeP (i := 6) rfl rfl rfl rfl (by kernel_rfl) (by kernel_rfl) (by kernel_rfl) rfl qD ?_
    refine L.move rfl rfl ?_
    refine A.took ?_
    refine A.known (t := 25) rfl (show _ = Value.bool true from congrArg Value.bool (by simp)) ?_
    refine A.takeP (i := 7) rfl rfl rfl rfl (by kernel_rfl) (by kernel_rfl) (by kernel_rfl) rfl qD ?_
    refine L.guardT (dj := 25) rfl rfl rfl ?_
    refine L.move rfl rfl ?_
    refine A.took ?_
    refine A.takeP (i := 8) rfl rfl rfl rfl (by kernel_rfl) (by kernel_rfl) (by kernel_rfl) rfl qD ?_
    refine L.guardT (dj := 25) rfl rfl rfl ?_
    refine L.neI rfl rfl rfl ?_
    refine A.took ?_
    refine A.takeP (i := 9) rfl rfl rfl rfl (by kernel_rfl) (by kernel_rfl) (by kernel_rfl) rfl qD ?_
    refine L.guardT (dj := 25) rfl rfl rfl ?_
    refine L.move rfl rfl ?_
    refine A.took ?_
    refine A.known (t := 28) rfl (show _ = Value.bool true from congrArg Value.bool (decide_eq_true hf)) ?_
    refine A.takeP (i := 10) rfl rfl rfl rfl (by kernel_rfl) (by kernel_rfl) (by kernel_rfl) rfl qD ?_
    refine L.guardF (dj := 28) (c := true) rfl rfl rfl rfl rfl (by decide) ?_
    refine A.took ?_
    refine A.takeP (i := 12) rfl rfl rfl rfl (by kernel_rfl) (by kernel_rfl) (by kernel_rfl) rfl qD ?_
    refine L.guardF (dj := 28) (c := true) rfl rfl rfl rfl rfl (by decide) ?_
    refine A.took ?_
    refine A.branch (is := [11]) (by kernel_rfl) (by decide) (Each.cons rfl ?_ <| Each.nil) 
    refine L.guardF (dj := 28) (c := true) rfl rfl rfl rfl rfl (by decide) ?_
    refine A.backT rfl qD ?_
    refine A.branch (is := [13]) (by kernel_rfl) (by decide) (Each.cons rfl ?_ <| Each.nil) 
    refine L.guardF (dj := 28) (c := true) rfl rfl rfl rfl rfl (by decide) ?_
    refine A.backT rfl qD ?_
    refine A.takeP (i := 14) rfl rfl rfl rfl (by kernel_rfl) (by kernel_rfl) (by kernel_rfl) rfl qD ?_
    refine L.guardF (dj := 28) (c := true) rfl rfl rfl rfl rfl (by decide) ?_
    refine A.took ?_
    refine A.takeP (i := 15) rfl rfl rfl rfl (by kernel_rfl) (by kernel_rfl) (by kernel_rfl) rfl qD ?_
    refine L.guardF (dj := 28) (c := true) rfl rfl rfl rfl rfl (by decide) ?_
    refine A.took ?_
    refine A.branch (is := [16, 18]) (by kernel_rfl) (by decide) (Each.cons rfl ?_ <| Each.cons rfl ?_ <| Each.nil) 
    · skip
      refine L.guardU (dj := 34) rfl rfl rfl rfl rfl ?_
      refine A.backT rfl qD ?_
      refine A.branch (is := [17, 18]) (by kernel_rfl) (by decide) (Each.cons rfl ?_ <| Each.cons rfl ?_ <| Each.nil) 
      · skip
        refine L.guardU (dj := 34) rfl rfl rfl rfl rfl ?_
        refine A.backT rfl qD ?_
        refine A.branch (is := [18]) (by kernel_rfl) (by decide) (Each.cons rfl ?_ <| Each.nil) 
        refine L.guardU (dj := 34) rfl rfl rfl rfl rfl ?_
        refine A.backT rfl qD ?_
        refine A.branch (is := [19]) (by kernel_rfl) (by decide) (Each.cons rfl ?_ <| Each.nil) 
        refine L.guardU (dj := 34) rfl rfl rfl rfl rfl ?_
        refine A.backT rfl qD ?_
        refine A.branch (is := [20]) (by kernel_rfl) (by decide) (Each.cons rfl ?_ <| Each.nil) 
        refine L.guardF (dj := 28) (c := true) rfl rfl rfl rfl rfl (by decide) ?_
        refine A.backT rfl qD ?_
        refine A.takeP (i := 21) rfl rfl rfl rfl (by kernel_rfl) (by kernel_rfl) (by kernel_rfl) rfl qD ?_
        refine L.guardT (dj := 25) rfl rfl rfl ?_
        refine L.pickT rfl rfl rfl ?_
        refine A.took ?_
        refine A.takeP (i := 22) rfl rfl rfl rfl (by kernel_rfl) (by kernel_rfl) (by kernel_rfl) rfl qD ?_
        refine L.pickT rfl rfl rfl ?_
        refine A.took ?_
        refine A.takeP (i := 23) rfl rfl rfl rfl (by kernel_rfl) (by kernel_rfl) (by kernel_rfl) rfl qD ?_
        refine L.assign rfl rfl ?_
        refine A.took ?_
        refine A.done (by kernel_rfl) ?_
        refine T.thenN ?_
        refine T.ret ?_
        exact T.ret1 rfl rfl ⟨rfl, rfl, rfl⟩ qD qF
      · skip
        refine L.guardU (dj := 34) rfl rfl rfl rfl rfl ?_
        refine A.backT rfl qD ?_
        refine A.branch (is := [17]) (by kernel_rfl) (by decide) (Each.cons rfl ?_ <| Each.nil) 
        refine L.guardU (dj := 34) rfl rfl rfl rfl rfl ?_
        refine A.backT rfl qD ?_
        refine A.branch (is := [19]) (by kernel_rfl) (by decide) (Each.cons rfl ?_ <| Each.nil) 
        refine L.guardU (dj := 34) rfl rfl rfl rfl rfl ?_
        refine A.backT rfl qD ?_
        refine A.branch (is := [20]) (by kernel_rfl) (by decide) (Each.cons rfl ?_ <| Each.nil) 
        refine L.guardF (dj := 28) (c := true) rfl rfl rfl rfl rfl (by decide) ?_
        refine A.backT rfl qD ?_
        refine A.takeP (i := 21) rfl rfl rfl rfl (by kernel_rfl) (by kernel_rfl) (by kernel_rfl) rfl qD ?_
        refine L.guardT (dj := 25) rfl rfl rfl ?_
        refine L.pickT rfl rfl rfl ?_
        refine A.took ?_
        refine A.takeP (i := 22) rfl rfl rfl rfl (by kernel_rfl) (by kernel_rfl) (by kernel_rfl) rfl qD ?_
        refine L.pickT rfl rfl rfl ?_
        refine A.took ?_
        refine A.takeP (i := 23) rfl rfl rfl rfl (by kernel_rfl) (by kernel_rfl) (by kernel_rfl) rfl qD ?_
        refine L.assign rfl rfl ?_
        refine A.took ?_
        refine A.done (by kernel_rfl) ?_
        refine T.thenN ?_
        refine T.ret ?_
        exact T.ret1 rfl rfl ⟨rfl, rfl, rfl⟩ qD qF
    · skip
      refine L.guardU (dj := 34) rfl rfl rfl rfl rfl ?_
      refine A.backT rfl qD ?_
      refine A.branch (is := [16]) (by kernel_rfl) (by decide) (Each.cons rfl ?_ <| Each.nil) 
      refine L.guardU (dj := 34) rfl rfl rfl rfl rfl ?_
      refine A.backT rfl qD ?_
      refine A.branch (is := [17]) (by kernel_rfl) (by decide) (Each.cons rfl ?_ <| Each.nil) 
      refine L.guardU (dj := 34) rfl rfl rfl rfl rfl ?_
      refine A.backT rfl qD ?_
      refine A.branch (is := [19]) (by kernel_rfl) (by decide) (Each.cons rfl ?_ <| Each.nil) 
      refine L.guardU (dj := 34) rfl rfl rfl rfl rfl ?_
      refine A.backT rfl qD ?_
      refine A.branch (is := [20]) (by kernel_rfl) (by decide) (Each.cons rfl ?_ <| Each.nil) 
      refine L.guardF (dj := 28) (c := true) rfl rfl rfl rfl rfl (by decide) ?_
      refine A.backT rfl qD ?_
      refine A.takeP (i := 21) rfl rfl rfl rfl (by kernel_rfl) (by kernel_rfl) (by kernel_rfl) rfl qD ?_
      refine L.guardT (dj := 25) rfl rfl rfl ?_
      refine L.pickT rfl rfl rfl ?_
      refine A.took ?_
      refine A.takeP (i := 22) rfl rfl rfl rfl (by kernel_rfl) (by kernel_rfl) (by kernel_rfl) rfl qD ?_
      refine L.pickT rfl rfl rfl ?_
      refine A.took ?_
      refine A.takeP (i := 23) rfl rfl rfl rfl (by kernel_rfl) (by kernel_rfl) (by kernel_rfl) rfl qD ?_
      refine L.assign rfl rfl ?_
      refine A.took ?_
      refine A.done (by kernel_rfl) ?_
      refine T.thenN ?_
      refine T.ret ?_
      exact T.ret1 rfl rfl ⟨rfl, rfl, rfl⟩ qD qF
end Cv
