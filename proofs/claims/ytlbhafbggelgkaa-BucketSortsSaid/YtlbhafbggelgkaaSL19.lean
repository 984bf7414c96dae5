/-
  The walk of the law on sorting.
-/
import Derived.Test.YtlbhafbggelgkaaS19b
import Derived.Test.YtlbhafbggelgkaaI19
import Derived.Test.YtlbhafbggelgkaaProg
import Derived.KernelRfl
set_option maxRecDepth 10000
set_option linter.unusedSimpArgs false
set_option linter.unusedVariables false
namespace Cv
open Go Go.Proofs

set_option maxHeartbeats 1000000 in
theorem sorts_law (s : List UInt8) (hs : s.length ≤ maxLen) (a : Option Addr) (len cap : Nat) (xs : List Int) (hx : xs.length = len) (hg : ∀ x ∈ xs, g3 x) (hb : len ≤ 4611686018427387904)  : Spec Try.prog 6 [S s, .slice a len cap] [rsl 1 a len cap (xs.map e3)] [] (fun v D' M' => v = .bool true ∧ D' = [] ∧ M' = []) := by
  refine Spec.intro (n := 77) Try.func6 rfl rfl (by decide) (Nat.le_of_ble_eq_true rfl) rfl (fun _ => qA) (fun _ => qA) ?_
  intro σ D M
  have hnl := nmF_len s
  refine T.seq ?_
  refine T.region ?_
  refine L.assign rfl rfl ?_
  refine L.nil ?_
  refine T.thenN ?_
  refine T.seq ?_
  refine T.seq ?_
  refine T.region ?_
  refine L.call rfl (evs.nil) qD qS (awake_spec) ?_
  rintro _ _ _ ⟨rfl, rfl, rfl⟩
  refine L.norm qA qA ?_
  refine L.notB rfl rfl ?_
  refine L.nil ?_
  refine T.thenN ?_
  refine T.condF rfl rfl ?_
  refine T.skip ?_
  refine T.thenN ?_
  refine T.seq ?_
  refine T.region ?_
  refine L.buildSlice rfl bs22 (by decide) (BP.doneE (out := []) rfl) (fun b14 => ?_)
  refine L.toOwn (len := 0) qP (rows := ([] : List Int).map e3) (sz := 1) (by rfl) rfl (by simp) ?_
  refine L.assign rfl rfl ?_
  refine L.nil ?_
  refine T.thenN ?_
  refine T.seq ?_
  refine T.region ?_
  refine L.makeMap iK iK rfl (fun rb => ?_)
  refine L.assign rfl rfl ?_
  refine L.nil ?_
  refine T.thenN ?_
  refine T.seq ?_
  refine T.seq ?_
  refine T.region ?_
  refine L.assign rfl rfl ?_
  refine L.nil ?_
  refine T.thenN ?_
  refine T.block ?_
  refine T.eqv qP (show own 1 3 (some ⟨b14, 0, none⟩) 0 0 (([] : List Int).map e3) = own 1 3 (some ⟨b14, 0, none⟩) ([] : List Int).length 0 (([] : List Int).map e3) from rfl) ?_
  refine T.loop (fun K' D' M' μ => ∃ (i : Nat) (few : List Int) (fa : Option Addr) (fc : Nat) (lm : List (Int × Int)), ((i ≤ len ∧ i ≤ 30) ∧ FewI few lm i) ∧ K' = [(7, .int .i64 i), (5, .slice fa few.length fc)] ∧ D' = [] ∧ M' = [own 1 3 fa few.length fc (few.map e3), mp rb iK iK lm] ∧ μ = 30 - i) (.cons (t := 0) rfl <| .cons (t := 1) rfl <| .cons (t := 6) rfl <| SubK.nil _) (⟨0, [], _, _, [], ⟨by omega, few_0⟩, rfl, rfl, rfl, rfl⟩) (.cons (t := 7) rfl <| .cons (t := 5) rfl <| SubK.nil _) qD qS ?_
  rintro K1 D1 M1 m1 ⟨i, few, fa, fc, lm, ⟨⟨hi1, hi2⟩, hI⟩, rfl, rfl, rfl, rfl⟩
  refine T.norm3 qA qA qA ?_
  have hfl0 := hI.2.2.1
  refine T.seq ?_
  refine T.seq ?_
  refine T.cutC (fun K' D' M' => ∃ (w : Bool), (w = true ↔ (i < len ∧ i < 30)) ∧ K' = [(23, .bool w)] ∧ D' = [] ∧ M' = []) (M0 := []) (.cons (t := 0) rfl <| .cons (t := 1) rfl <| .cons (t := 5) rfl <| .cons (t := 6) rfl <| .cons (t := 7) rfl <| SubK.nil _) qS ?_ ?_
  · skip
    refine T.region ?_
    refine L.move rfl rfl ?_
    refine L.move rfl rfl ?_
    refine L.lenSl rfl Try.underlying22 rfl ?_
    refine L.ltI rfl rfl rfl ?_
    refine L.move rfl rfl ?_
    refine L.part (t := 20) rfl (fun h1 => ?_) (fun h1 => ?_)
    · try simp only [decide_eq_true_eq, decide_eq_false_iff_not, Bool.not_eq_true', Bool.not_eq_false', Bool.and_eq_true, Bool.or_eq_true] at h1
      refine L.guardT (dj := 20) rfl rfl rfl ?_
      refine L.move rfl rfl ?_
      refine L.guardT (dj := 20) rfl rfl rfl ?_
      refine L.ltI rfl rfl rfl ?_
      refine L.pickT rfl rfl rfl ?_
      refine L.nil ?_
      refine T.thenN ?_
      exact T.toJoin ⟨_, (by simp; omega), rfl, rfl, rfl⟩ (.cons (t := 23) rfl <| SubK.nil _) (.cons (t := 0) rfl <| .cons (t := 1) rfl <| .cons (t := 5) rfl <| .cons (t := 6) rfl <| .cons (t := 7) rfl <| SubK.nil _) qD qD qF
    · try simp only [decide_eq_true_eq, decide_eq_false_iff_not, Bool.not_eq_true', Bool.not_eq_false', Bool.and_eq_true, Bool.or_eq_true] at h1
      refine L.guardF (dj := 20) (c := false) rfl rfl rfl rfl rfl (by decide) ?_
      refine L.guardF (dj := 20) (c := false) rfl rfl rfl rfl rfl (by decide) ?_
      refine L.pickF rfl rfl rfl ?_
      refine L.nil ?_
      refine T.thenN ?_
      exact T.toJoin ⟨_, (by simp; omega), rfl, rfl, rfl⟩ (.cons (t := 23) rfl <| SubK.nil _) (.cons (t := 0) rfl <| .cons (t := 1) rfl <| .cons (t := 5) rfl <| .cons (t := 6) rfl <| .cons (t := 7) rfl <| SubK.nil _) qD qD qF
  rintro _ _ _ ⟨w, hw, rfl, rfl, rfl⟩
  refine T.norm3 qA qA qA ?_
  refine T.thenN ?_
  refine T.cond rfl (fun h23 => ?_) (fun h23 => ?_)
  · try simp only [decide_eq_true_eq, decide_eq_false_iff_not, Bool.not_eq_true', Bool.not_eq_false', Bool.and_eq_true, Bool.or_eq_true] at h23
    have hwt := hw.1 h23
    refine T.skip ?_
    refine T.thenN ?_
    refine T.seq ?_
    refine T.block ?_
    refine T.seq ?_
    have hot2 := tmod64 (gd xs i)
    refine T.region ?_
    have hgi : xs[i]? = some (gd xs i) := gd_get (by omega)
    refine L.move rfl rfl ?_
    refine L.move rfl rfl ?_
    refine L.idx (i := i) rfl Try.underlying22 sz3 rfl rfl qM (by first | rfl | omega | (simp; done)) qG (fun b28 o28 => ?_)
    refine L.load rfl sc3 rfl qC ?_
    refine L.remI rfl rfl rfl (by decide) ?_
    refine L.addN rfl rfl rfl (by omega) ?_
    refine L.remI rfl rfl rfl (by decide) ?_
    refine L.assign rfl rfl ?_
    refine L.nil ?_
    obtain ⟨n, hn, hn1, hn2⟩ : ∃ m : Int, m = ((gd xs i).tmod 64 + 64).tmod 64 ∧ 0 ≤ m ∧ m < 64 := ⟨_, rfl, own_bounds (gd xs i)⟩
    rw [← hn]
    refine T.thenN ?_
    refine T.seq ?_
    have hvg := few_vals (n := n) hI
    refine T.region ?_
    refine L.move rfl rfl ?_
    refine L.move rfl rfl ?_
    refine L.lookup1 rfl Try.underlying26 kt3 zv3 rfl rfl qM ?_
    refine L.known (t := 35) (u := .int .i64 ((look lm n).getD 0)) rfl (by cases look lm n <;> rfl) ?_
    refine L.addN rfl rfl rfl (by omega) ?_
    refine L.mapUpdate (kenc := iK) (venc := iK) (l := lm) (v := (look lm n).getD 0 + 1) Try.underlying26 kt3 rfl rfl rfl rfl qP ?_
    refine L.nil ?_
    refine T.thenN ?_
    refine T.seq ?_
    refine T.region ?_
    refine L.move rfl rfl ?_
    refine L.move rfl rfl ?_
    refine L.lookup1 rfl Try.underlying26 kt3 zv3 rfl rfl qM ?_
    refine L.known (t := 39) (u := .int .i64 ((look lm n).getD 0 + 1)) rfl (by rw [look_put, if_pos rfl]; rfl) ?_
    refine L.eqI rfl rfl rfl ?_
    refine L.nil ?_
    refine T.thenN ?_
    refine T.cond rfl (fun h40 => ?_) (fun h40 => ?_)
    · try simp only [decide_eq_true_eq, decide_eq_false_iff_not, Bool.not_eq_true', Bool.not_eq_false', Bool.and_eq_true, Bool.or_eq_true] at h40
      refine T.region ?_
      refine L.move rfl rfl ?_
      refine L.move rfl rfl ?_
      refine L.buildSlice rfl bs22 (by decide) (BP.one rfl rfl rfl <| BP.doneE (out := []) rfl) (fun b43 => ?_)
      refine L.append1 rfl Try.underlying22 el3 rfl rfl qP qM rfl qO1 qI qI (fun a44 c44 => ?_)
      rw [show few.length + 1 = (few ++ [n]).length from by simp]
      refine L.assign rfl rfl ?_
      refine L.nil ?_
      refine T.ownEq a44 ((few ++ [n]).map e3) qP (by simp) ?_
      refine T.blkN ?_
      refine T.thenN ?_
      refine T.region ?_
      refine L.move rfl rfl ?_
      refine L.addN rfl rfl rfl (by omega) ?_
      refine L.assign rfl rfl ?_
      refine L.nil ?_
      refine T.thenN ?_
      exact T.back ⟨i + 1, few ++ [n], _, _, _, ⟨by omega, few_yes hI ⟨hn1, hn2⟩ h40⟩, rfl, rfl, rfl, rfl⟩ qI (.cons (t := 7) rfl <| .cons (t := 5) rfl <| SubK.nil _) (.cons (t := 0) rfl <| .cons (t := 1) rfl <| .cons (t := 6) rfl <| SubK.nil _) qD qD qF
    · try simp only [decide_eq_true_eq, decide_eq_false_iff_not, Bool.not_eq_true', Bool.not_eq_false', Bool.and_eq_true, Bool.or_eq_true] at h40
      refine T.skip ?_
      refine T.blkN ?_
      refine T.thenN ?_
      refine T.region ?_
      refine L.move rfl rfl ?_
      refine L.addN rfl rfl rfl (by omega) ?_
      refine L.assign rfl rfl ?_
      refine L.nil ?_
      refine T.thenN ?_
      exact T.back ⟨i + 1, few, _, _, _, ⟨by omega, few_no hI h40⟩, rfl, rfl, rfl, rfl⟩ qI (.cons (t := 7) rfl <| .cons (t := 5) rfl <| SubK.nil _) (.cons (t := 0) rfl <| .cons (t := 1) rfl <| .cons (t := 6) rfl <| SubK.nil _) qD qD qF
  · try simp only [decide_eq_true_eq, decide_eq_false_iff_not, Bool.not_eq_true', Bool.not_eq_false', Bool.and_eq_true, Bool.or_eq_true] at h23
    have hwf : ¬ (i < len ∧ i < 30) := fun e => by have := hw.2 e; rw [h23] at this; cases this
    refine T.exit ?_
    refine T.thenX ?_
    refine T.thenX ?_
    refine T.blkX ?_
    refine T.thenN ?_
    refine T.seq ?_
    refine T.region ?_
    refine L.move rfl rfl ?_
    refine L.call rfl (evs.cons rfl <| evs.nil) qD qS (name_spec) ?_
    rintro _ _ _ ⟨rfl, rfl, rfl⟩
    refine L.norm qA qA ?_
    refine L.alloc rfl ze34 (fun b9 => ?_)
    refine L.storeA ag34 rfl rfl qL qO qU qW ?_
    refine L.nil ?_
    refine T.thenN ?_
    refine T.seq ?_
    have hfl := hI.2.2.1
    refine T.ownRsl qP ?_
    refine T.region ?_
    refine L.loadA rfl ag34 rfl qN ?_
    refine L.move rfl rfl ?_
    refine L.call rfl (evs.cons rfl <| evs.cons rfl <| evs.nil) qD qS (bsort_spec (xs := few) hnl (by omega)) ?_
    rintro _ _ _ ⟨ga, gc, ys, rfl, hS, rfl, rfl⟩
    refine L.norm qA qA ?_
    refine L.assign rfl rfl ?_
    refine L.nil ?_
    have hys := srtG_of hnl hI.2.1 hS
    have hyl := hS.1.length_eq
    rw [hys] at hyl
    subst hys
    refine T.ownRsl qP ?_
    refine T.thenN ?_
    refine T.seq ?_
    refine T.seq ?_
    refine T.region ?_
    refine L.move rfl rfl ?_
    refine L.loadA rfl ag34 rfl qN ?_
    refine L.call rfl (evs.cons rfl <| evs.nil) qD qS (obytes_spec (l := nmF s) hnl) ?_
    rintro _ _ _ ⟨rfl, rfl, rfl⟩
    refine L.norm qA qA ?_
    refine L.move rfl rfl ?_
    refine L.call rfl (evs.cons rfl <| evs.cons rfl <| evs.nil) qD qS (rsort_spec (xs := few) hnl (by omega)) ?_
    rintro _ _ _ ⟨ra, rc, rfl, rfl, rfl⟩
    refine L.norm qA qA ?_
    refine L.ownRsl qP ?_
    refine L.callF rfl (evs.cons rfl <| evs.cons rfl <| evs.nil) qD qS (same_spec (xs := srtG (nmF s) few) (ys := srtG (nmF s) few) (by omega) (by rw [hyl]; omega)) (by rintro u D1 M1 ⟨rfl, rfl, rfl⟩; exact ⟨rfl, _, qA, qF⟩) ?_
    refine L.notB rfl rfl ?_
    refine L.nil ?_
    refine T.thenN ?_
    refine T.condF rfl (by rw [decide_eq_true rfl]; rfl) ?_
    refine T.skip ?_
    refine T.thenN ?_
    refine T.seq ?_
    refine T.seq ?_
    refine T.region ?_
    refine L.assign rfl rfl ?_
    refine L.nil ?_
    refine T.thenN ?_
    refine T.block ?_
    refine T.loop (fun K' D' M' μ => ∃ (i : Nat), (1 ≤ i) ∧ K' = [(11, .int .i64 (i : Int))] ∧ D' = [] ∧ M' = [] ∧ μ = few.length - i) (.cons (t := 9) rfl <| .cons (t := 10) rfl <| SubK.nil _) (⟨1, Nat.le_refl _, rfl, rfl, rfl, rfl⟩) (.cons (t := 11) rfl <| SubK.nil _) qD qS ?_
    rintro K1 D1 M1 m1 ⟨i, hi, rfl, rfl, rfl, rfl⟩
    refine T.norm3 qA qA qA ?_
    refine T.seq ?_
    refine T.seq ?_
    refine T.region ?_
    refine L.move rfl rfl ?_
    refine L.move rfl rfl ?_
    refine L.lenSl rfl Try.underlying22 rfl ?_
    refine L.ltI rfl rfl rfl ?_
    refine L.nil ?_
    refine T.thenN ?_
    refine T.cond rfl (fun h60 => ?_) (fun h60 => ?_)
    · try simp only [decide_eq_true_eq, decide_eq_false_iff_not, Bool.not_eq_true', Bool.not_eq_false', Bool.and_eq_true, Bool.or_eq_true] at h60
      refine T.rslAddr (rows := (srtG (nmF s) few).map e3) (len := few.length) qM (fun e => by have h0 := List.map_eq_nil_iff.1 e; rw [h0] at hyl; simp at hyl; omega) (fun yb yo ha => ?_)
      subst ha
      have hg1 : (srtG (nmF s) few)[i - 1]? = some (gd (srtG (nmF s) few) (i - 1)) := gd_get (by omega)
      have hg2 : (srtG (nmF s) few)[i]? = some (gd (srtG (nmF s) few) i) := gd_get (by omega)
      have hnear := near_step hnl hS hI.1 hI.2.1 hi (by omega)
      refine T.skip ?_
      refine T.thenN ?_
      refine T.seq ?_
      refine T.block ?_
      refine T.seq ?_
      refine T.regionQ (by kernel_rfl) (by kernel_rfl) ?_
      refine L.loadA rfl ag34 rfl qN ?_
      refine L.move rfl rfl ?_
      refine L.move rfl rfl ?_
      refine L.subN rfl rfl rfl (by omega) ?_
      refine L.idxR (i := i - 1) rfl Try.underlying22 sz3 rfl rfl qM (by first | rfl | omega | (simp; done)) qI qG ?_
      refine L.load rfl sc3 rfl qC ?_
      refine L.callF rfl (evs.cons rfl <| evs.nil) qD qS (bid_spec) (by rintro u D1 M1 ⟨rfl, rfl, rfl⟩; exact ⟨rfl, _, qA, qF⟩) ?_
      refine L.move rfl rfl ?_
      refine L.move rfl rfl ?_
      refine L.idxR (i := i) rfl Try.underlying22 sz3 rfl rfl qM (by first | rfl | omega | (simp; done)) qI qG ?_
      refine L.load rfl sc3 rfl qC ?_
      refine L.callF rfl (evs.cons rfl <| evs.nil) qD qS (bid_spec) (by rintro u D1 M1 ⟨rfl, rfl, rfl⟩; exact ⟨rfl, _, qA, qF⟩) ?_
      refine L.callF rfl (evs.cons rfl <| evs.cons rfl <| evs.cons rfl <| evs.nil) qD qS (closer_spec hnl (idF_len _) (idF_len _)) (by rintro u D1 M1 ⟨rfl, rfl, rfl⟩; exact ⟨rfl, _, qA, qF⟩) ?_
      refine L.notB rfl rfl ?_
      refine L.nilQ ?_
      refine T.thenN ?_
      refine T.condF rfl (by rw [decide_eq_true hnear]; rfl) ?_
      refine T.skip ?_
      refine T.blkN ?_
      refine T.thenN ?_
      refine T.region ?_
      refine L.move rfl rfl ?_
      refine L.addN rfl rfl rfl (by omega) ?_
      refine L.assign rfl rfl ?_
      refine L.nil ?_
      refine T.thenN ?_
      exact T.back ⟨i + 1, by omega, rfl, rfl, rfl, rfl⟩ qI (.cons (t := 11) rfl <| SubK.nil _) (.cons (t := 9) rfl <| .cons (t := 10) rfl <| SubK.nil _) qD qD qF
    · try simp only [decide_eq_true_eq, decide_eq_false_iff_not, Bool.not_eq_true', Bool.not_eq_false', Bool.and_eq_true, Bool.or_eq_true] at h60
      refine T.exit ?_
      refine T.thenX ?_
      refine T.thenX ?_
      refine T.blkX ?_
      refine T.thenN ?_
      refine T.seq ?_
      refine T.region ?_
      refine L.assign rfl rfl ?_
      refine L.nil ?_
      refine T.thenN ?_
      refine T.ret ?_
      exact T.ret1 rfl rfl ⟨rfl, rfl, rfl⟩ qD qF
end Cv
