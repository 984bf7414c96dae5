/-
  The walks: the reference of infos.
-/
import Derived.Test.YtcilkdnbbebjgaaGreatSa11
import Derived.Test.YtcilkdnbbebjgaaGreatProg
import Derived.KernelRfl
set_option linter.unusedVariables false
set_option linter.unusedSimpArgs false
set_option linter.unusedSectionVars false
set_option maxRecDepth 10000
namespace Cv
open Go Go.Proofs
@[reducible] def inR (p : Pt) (a : Option Addr) (n c : Nat) : List Value := [S p.1.1, .int .i64 p.2, .slice a n c]
theorem gd_map {l : List ID32} {i : Nat} (h : i < l.length) : (l.map (·.1))[i]? = some (gd l i).1 := by
  rw [List.getElem?_map, gd_get h]; rfl
theorem cfI_bl {x y : ID32} (h : bless x.1 y.1 = false) : 0 ≤ cfI x y := by
  rcases Int.lt_or_le (cfI x y) 0 with k | k
  · rw [bless_iff.2 k] at h; cases h
  · exact k
theorem fo43_0 : Fo Tryz.prog 43 0 0 := fun a w => by kernel_rfl
theorem fo41_1 : Fo Tryz.prog 41 1 1 := fun a w => by kernel_rfl
theorem fo43_1 : Fo Tryz.prog 43 1 2 := fun a w => by kernel_rfl
set_option maxHeartbeats 400000 in
theorem rcheck11_spec {a : Option Addr} {n c : Nat} {l : List ID32} {p : Pt} (hn : n ≤ 1000000) : Spec Tryz.prog 25 [.agg (inR p a n c).toArray] [rsl 1 a n c ((l.map (·.1)).map ys)] [] (fun v D' M' => v = .int .i64 (chkI p l) ∧ D' = [] ∧ M' = []) := by
  refine Spec.intro (n := 37) Tryz.func25 rfl rfl (by decide) (Nat.le_of_ble_eq_true rfl) rfl (fun _ => qA) (fun _ => qA) ?_
  intro σ D M
  refine T.rslLen2 (rows := (l.map (·.1)).map ys) qM (fun hpl hpc => ?_)
  rw [List.length_map, List.length_map] at hpl
  
  refine T.seq ?_
  refine T.region ?_
  refine L.box rfl rfl rfl (fun b1 => ?_)
  refine L.assign rfl rfl ?_
  refine L.nil ?_
  refine T.freeze (A := cl b1 43 (inR p a n c)) qP ?_
  refine T.thenN ?_
  refine T.seq ?_
  refine T.seq ?_
  refine T.region ?_
  first | refine L.field0 rfl fo43_0 rfl ?_ | refine L.field rfl fo43_0 rfl ?_
  first | refine L.field0 rfl fo41_1 rfl ?_ | refine L.field rfl fo41_1 rfl ?_
  refine L.load rfl sc3 rfl qC ?_
  refine L.ltI rfl rfl rfl ?_
  refine L.nil ?_
  refine T.thenN ?_
  refine T.cond rfl (fun h7 => ?_) (fun h7 => ?_)
  · try simp only [decide_eq_true_eq, decide_eq_false_iff_not, Bool.not_eq_true', Bool.not_eq_false', Bool.and_eq_true, Bool.or_eq_true] at h7
    refine T.seq ?_
    refine T.region ?_
    refine L.assign rfl rfl ?_
    refine L.nil ?_
    refine T.thenN ?_
    refine T.ret ?_
    refine T.thenR ?_
    exact T.ret1 rfl rfl ⟨by rw [chk_2 h7], rfl, rfl⟩ qD qF
  · try simp only [decide_eq_true_eq, decide_eq_false_iff_not, Bool.not_eq_true', Bool.not_eq_false', Bool.and_eq_true, Bool.or_eq_true] at h7
    refine T.skip ?_
    refine T.thenN ?_
    refine T.seq ?_
    refine T.seq ?_
    refine T.region ?_
    first | refine L.field0 rfl fo43_0 rfl ?_ | refine L.field rfl fo43_0 rfl ?_
    first | refine L.field0 rfl fo41_1 rfl ?_ | refine L.field rfl fo41_1 rfl ?_
    refine L.load rfl sc3 rfl qC ?_
    refine L.gtI rfl rfl rfl ?_
    refine L.move rfl rfl ?_
    refine L.part (t := 12) rfl (fun h1 => ?_) (fun h1 => ?_)
    · try simp only [decide_eq_true_eq, decide_eq_false_iff_not, Bool.not_eq_true', Bool.not_eq_false', Bool.and_eq_true, Bool.or_eq_true] at h1
      refine L.guardF (dj := 12) (c := true) rfl rfl rfl rfl rfl (by decide) ?_
      refine L.guardF (dj := 12) (c := true) rfl rfl rfl rfl rfl (by decide) ?_
      refine L.guardF (dj := 12) (c := true) rfl rfl rfl rfl rfl (by decide) ?_
      refine L.guardF (dj := 12) (c := true) rfl rfl rfl rfl rfl (by decide) ?_
      refine L.pickT rfl rfl rfl ?_
      refine L.nil ?_
      refine T.thenN ?_
      refine T.condT rfl rfl ?_
      refine T.seq ?_
      refine T.region ?_
      refine L.assign rfl rfl ?_
      refine L.nil ?_
      refine T.thenN ?_
      refine T.ret ?_
      refine T.thenR ?_
      exact T.ret1 rfl rfl ⟨by rw [chk_5 h7 (by omega)], rfl, rfl⟩ qD qF
    · try simp only [decide_eq_true_eq, decide_eq_false_iff_not, Bool.not_eq_true', Bool.not_eq_false', Bool.and_eq_true, Bool.or_eq_true] at h1
      refine L.guardT (dj := 12) rfl rfl rfl ?_
      first | refine L.field0 rfl fo43_1 rfl ?_ | refine L.field rfl fo43_1 rfl ?_
      refine L.guardT (dj := 12) rfl rfl rfl ?_
      refine L.load rfl sc25 rfl qC ?_
      refine L.guardT (dj := 12) rfl rfl rfl ?_
      refine L.lenSl rfl Tryz.underlying25 rfl ?_
      refine L.guardT (dj := 12) rfl rfl rfl ?_
      refine L.gtI rfl rfl rfl ?_
      refine L.pickF rfl rfl rfl ?_
      refine L.nil ?_
      refine T.thenN ?_
      refine T.cond rfl (fun h17 => ?_) (fun h17 => ?_)
      · try simp only [decide_eq_true_eq, decide_eq_false_iff_not, Bool.not_eq_true', Bool.not_eq_false', Bool.and_eq_true, Bool.or_eq_true] at h17
        refine T.seq ?_
        refine T.region ?_
        refine L.assign rfl rfl ?_
        refine L.nil ?_
        refine T.thenN ?_
        refine T.ret ?_
        refine T.thenR ?_
        exact T.ret1 rfl rfl ⟨by rw [chk_5 h7 (by omega)], rfl, rfl⟩ qD qF
      · try simp only [decide_eq_true_eq, decide_eq_false_iff_not, Bool.not_eq_true', Bool.not_eq_false', Bool.and_eq_true, Bool.or_eq_true] at h17
        refine T.skip ?_
        refine T.thenN ?_
        refine T.seq ?_
        refine T.seq ?_
        refine T.region ?_
        refine L.assign rfl rfl ?_
        refine L.nil ?_
        refine T.thenN ?_
        refine T.block ?_
        refine T.loop (fun K' D' M' μ => ∃ (i : Nat), ((1 ≤ i ∧ (i ≤ n ∨ i = 1)) ∧ rsR l i) ∧ K' = [(3, .int .i64 (i : Int))] ∧ D' = [] ∧ M' = [] ∧ μ = n - i) (.cons (t := 1) rfl <| SubK.nil _) (⟨1, ⟨by omega, fun j hj => by omega⟩, rfl, rfl, rfl, rfl⟩) (.cons (t := 3) rfl <| SubK.nil _) qD qS ?_
        rintro K1 D1 M1 m1 ⟨i, ⟨hi, hr⟩, rfl, rfl, rfl, rfl⟩
        refine T.norm3 qA qA qA ?_
        refine T.seq ?_
        refine T.seq ?_
        refine T.region ?_
        refine L.move rfl rfl ?_
        first | refine L.field0 rfl fo43_1 rfl ?_ | refine L.field rfl fo43_1 rfl ?_
        refine L.load rfl sc25 rfl qC ?_
        refine L.lenSl rfl Tryz.underlying25 rfl ?_
        refine L.ltI rfl rfl rfl ?_
        refine L.nil ?_
        refine T.thenN ?_
        refine T.cond rfl (fun h22 => ?_) (fun h22 => ?_)
        · try simp only [decide_eq_true_eq, decide_eq_false_iff_not, Bool.not_eq_true', Bool.not_eq_false', Bool.and_eq_true, Bool.or_eq_true] at h22
          refine T.skip ?_
          refine T.thenN ?_
          refine T.seq ?_
          refine T.block ?_
          refine T.seq ?_
          have hg0 : (l.map (·.1))[i]? = some (gd l (i)).1 := gd_map (by omega)
          have hgr0 : ((l.map (·.1)).map ys)[i]? = some (ys (gd l (i)).1) := map_get hg0
          have hg1 : (l.map (·.1))[i - 1]? = some (gd l (i - 1)).1 := gd_map (by omega)
          have hgr1 : ((l.map (·.1)).map ys)[i - 1]? = some (ys (gd l (i - 1)).1) := map_get hg1
          refine T.rslAddr (rows := (l.map (·.1)).map ys) qM (fun e => by have := congrArg List.length e; rw [List.length_map, List.length_map] at this; simp only [List.length_nil] at this; omega) (fun b o ha => ?_)
          subst ha
          refine T.regionQ (by kernel_rfl) (by kernel_rfl) ?_
          first | refine L.field0 rfl fo43_1 rfl ?_ | refine L.field rfl fo43_1 rfl ?_
          refine L.load rfl sc25 rfl qC ?_
          refine L.move rfl rfl ?_
          refine L.subN rfl rfl rfl (by omega) ?_
          refine L.idxR (i := i - 1) rfl Tryz.underlying25 sz9 rfl rfl qM (by first | rfl | omega | (simp; done)) qI qG ?_
          refine L.load rfl sc9 rfl qC ?_
          first | refine L.field0 rfl fo43_1 rfl ?_ | refine L.field rfl fo43_1 rfl ?_
          refine L.load rfl sc25 rfl qC ?_
          refine L.move rfl rfl ?_
          refine L.idxR (i := i) rfl Tryz.underlying25 sz9 rfl rfl qM (by first | rfl | omega | (simp; done)) qI qG ?_
          refine L.load rfl sc9 rfl qC ?_
          refine L.geS rfl rfl rfl ?_
          refine L.nilQ ?_
          refine T.thenN ?_
          refine T.cond rfl (fun h36 => ?_) (fun h36 => ?_)
          · try simp only [decide_eq_true_eq, decide_eq_false_iff_not, Bool.not_eq_true', Bool.not_eq_false', Bool.and_eq_true, Bool.or_eq_true] at h36
            have h36 : 0 ≤ cfI (gd l (i - 1)) (gd l i) := by
              cases hb : bless (gd l (i - 1)).1 (gd l i).1 with
              | false => exact cfI_bl hb
              | true => simp [hb] at h36
            refine T.seq ?_
            refine T.region ?_
            refine L.assign rfl rfl ?_
            refine L.nil ?_
            refine T.thenN ?_
            refine T.ret ?_
            refine T.blkR ?_
            refine T.thenR ?_
            refine T.thenR ?_
            refine T.blkR ?_
            refine T.thenR ?_
            exact T.ret1 rfl rfl ⟨by rw [chk_r h7 (by omega) (by omega) h36], rfl, rfl⟩ qD qF
          · try simp only [decide_eq_true_eq, decide_eq_false_iff_not, Bool.not_eq_true', Bool.not_eq_false', Bool.and_eq_true, Bool.or_eq_true] at h36
            have h36 : ¬ 0 ≤ cfI (gd l (i - 1)) (gd l i) := by
              cases hb : bless (gd l (i - 1)).1 (gd l i).1 with
              | false => simp [hb] at h36
              | true => exact fun q => by have := bless_iff.1 hb; unfold cfI at q; omega
            refine T.skip ?_
            refine T.blkN ?_
            refine T.thenN ?_
            refine T.region ?_
            refine L.move rfl rfl ?_
            refine L.addN rfl rfl rfl (by omega) ?_
            refine L.assign rfl rfl ?_
            refine L.nil ?_
            refine T.thenN ?_
            exact T.back ⟨i + 1, ⟨by omega, rsR_s hi.1 hr h36⟩, rfl, rfl, rfl, rfl⟩ qI (.cons (t := 3) rfl <| SubK.nil _) (.cons (t := 1) rfl <| SubK.nil _) qD qD qF
        · try simp only [decide_eq_true_eq, decide_eq_false_iff_not, Bool.not_eq_true', Bool.not_eq_false', Bool.and_eq_true, Bool.or_eq_true] at h22
          refine T.exit ?_
          refine T.thenX ?_
          refine T.thenX ?_
          refine T.blkX ?_
          refine T.thenN ?_
          refine T.seq ?_
          refine T.region ?_
          refine L.assign rfl rfl ?_
          refine L.nil ?_
          refine T.thenN ?_
          refine T.ret ?_
          exact T.ret1 rfl rfl ⟨by rw [chk_0 h7 (by omega) (fun j hj => hr j (by omega))], rfl, rfl⟩ qD qF
end Cv
