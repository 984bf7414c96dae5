/-
  The walks: the walks of asking, hearing and telling.
-/
import Derived.Test.YtjacegfanhejdaaL20
import Derived.Test.YtjacegfanhejdaaProg
import Derived.KernelRfl
set_option linter.unusedVariables false
set_option linter.unusedSimpArgs false
set_option linter.unusedSectionVars false
set_option maxRecDepth 10000
namespace Cv
open Go Go.Proofs
theorem tk6 {l : List Int} {n : Nat} (h : l.length = n) : l.take 6 = l.take (min 6 n) := by
  rcases Nat.le_total 6 n with e | e
  · rw [Nat.min_eq_left e]
  · rw [Nat.min_eq_right e, List.take_of_length_le (by omega), List.take_of_length_le (by omega)]
theorem fo68_1 : Fo Try.prog 68 1 1 := fun a w => by kernel_rfl
theorem fo38_1 : Fo Try.prog 38 1 1 := fun a w => by kernel_rfl
theorem fo38_0 : Fo Try.prog 38 0 0 := fun a w => by kernel_rfl
theorem fo38_4 : Fo Try.prog 38 4 4 := fun a w => by kernel_rfl
theorem fo38_7 : Fo Try.prog 38 7 38 := fun a w => by kernel_rfl
theorem sc22 : Sc Try.prog 22 := fun w => ⟨by kernel_rfl, by kernel_rfl⟩
theorem fo38_8 : Fo Try.prog 38 8 39 := fun a w => by kernel_rfl
set_option maxHeartbeats 400000 in
theorem over_spec {b m1 m2 : Nat} {g : List UInt8} {o : Int} {lo : OfM} (hg : g.length = 32) (hlo : lo.length ≤ 64) : Spec Try.prog 11 [.pointer (some ⟨b, 0, none⟩)] [cl b 62 (hdrS g o m1 m2)] [mp m1 iK oneV (lo)] (fun v D' M' => ∃ (ys : List Int), v = .bool (ys.take 6 |>.all (toldB lo)) ∧ (SortedBy (cfG g) (liveK lo) ys) ∧ D' = [] ∧ M' = [mp m1 iK oneV (lo)]) := by
  refine Spec.intro (n := 21) Try.func11 rfl rfl (by decide) (Nat.le_of_ble_eq_true rfl) rfl (fun _ => qA) (fun _ => qA) ?_
  intro σ D M
  refine T.seq ?_
  refine T.region ?_
  refine L.assign rfl rfl ?_
  refine L.nil ?_
  refine T.thenN ?_
  refine T.seq ?_
  refine T.seq ?_
  refine T.region ?_
  refine L.move rfl rfl ?_
  refine L.call rfl (evs.cons rfl <| evs.cons rfl <| evs.nil) qD qS (near_spec (lo := lo) (k := 6) hg hlo (by omega)) ?_
  rintro _ _ _ ⟨na, nn, nc, ys, rfl, hS, hnn0, rfl, rfl⟩
  refine L.norm qA qA ?_
  have hyl := hS.1.length_eq
  have htl : (ys.take nn).length = nn := by rw [List.length_take]; omega
  refine L.lenSl rfl Try.underlying22 rfl ?_
  refine L.move rfl rfl ?_
  refine L.nil ?_
  refine T.ownRsl (rows := (ys.take nn).map e3) qP ?_
  have h6 : ys.take nn = ys.take 6 := by rw [hnn0]; exact (tk6 rfl).symm
  refine T.thenN ?_
  refine T.block ?_
  refine T.loop (fun K' D' M' μ => ∃ (i : Nat), (i ≤ nn ∧ ((ys.take nn).take i).all (toldB lo) = true) ∧ K' = [(8, .int .i64 i)] ∧ D' = [] ∧ M' = [] ∧ μ = nn - i) (.cons (t := 0) rfl <| .cons (t := 6) rfl <| .cons (t := 7) rfl <| SubK.nil _) (⟨0, ⟨by omega, rfl⟩, rfl, rfl, rfl, rfl⟩) (.cons (t := 8) rfl <| SubK.nil _) qD qS ?_
  rintro K1 D1 M1 m1 ⟨i, ⟨hi, hall⟩, rfl, rfl, rfl, rfl⟩
  refine T.norm3 qA qA qA ?_
  refine T.seq ?_
  refine T.region ?_
  refine L.ltI rfl rfl rfl ?_
  refine L.nil ?_
  refine T.thenN ?_
  refine T.seq ?_
  refine T.cond rfl (fun h9 => ?_) (fun h9 => ?_)
  · try simp only [decide_eq_true_eq, decide_eq_false_iff_not, Bool.not_eq_true', Bool.not_eq_false', Bool.and_eq_true, Bool.or_eq_true] at h9
    refine T.skip ?_
    refine T.thenN ?_
    refine T.seq ?_
    refine T.block ?_
    refine T.seq ?_
    have hn0 : (ys.take nn)[i]? = some (gd (ys.take nn) i) := gd_get (by omega)
    obtain ⟨n, hnn⟩ : ∃ n, n = gd (ys.take nn) i := ⟨_, rfl⟩
    rw [← hnn] at hn0
    refine T.region ?_
    refine L.idx (i := i) rfl Try.underlying22 sz3 rfl rfl qM (by first | rfl | omega | (simp; done)) qG (fun b10 o10 => ?_)
    refine L.load rfl sc3 rfl qC ?_
    refine L.assign rfl rfl ?_
    refine L.nil ?_
    refine T.thenN ?_
    refine T.seq ?_
    refine T.region ?_
    refine L.move rfl rfl ?_
    refine L.nilCheck rfl rfl ?_
    first | refine L.field0 rfl fo62_2 rfl ?_ | refine L.field rfl fo62_2 rfl ?_
    refine L.load rfl sc60 rfl qC ?_
    refine L.move rfl rfl ?_
    refine L.lookup1 (kenc := iK) (venc := oneV) (l := lo) (k := n) rfl Try.underlying60 kt3 zv68 rfl rfl qM ?_
    obtain ⟨p, hp⟩ : ∃ p, p = (look (lo) n).getD (0, 0) := ⟨_, rfl⟩
    refine L.known (t := 17) (u := .agg #[.int .i64 p.1, .int .i64 p.2]) rfl (by rw [one_get, ← hp]) ?_
    refine L.fieldV (off := 0) rfl Try.underlying68 rfl sc3 rfl rfl ?_
    refine L.neI rfl rfl rfl ?_
    refine L.nil ?_
    refine T.thenN ?_
    refine T.cond rfl (fun h19 => ?_) (fun h19 => ?_)
    · try simp only [decide_eq_true_eq, decide_eq_false_iff_not, Bool.not_eq_true', Bool.not_eq_false', Bool.and_eq_true, Bool.or_eq_true] at h19
      have hbad : (ys.take 6).all (toldB lo) = false := List.all_eq_false.2 ⟨n, by rw [← h6]; exact List.mem_of_getElem? hn0, by simp [toldB, stO, ← hp, h19]⟩
      refine T.seq ?_
      refine T.region ?_
      refine L.assign rfl rfl ?_
      refine L.nil ?_
      refine T.thenN ?_
      refine T.ret ?_
      refine T.blkR ?_
      refine T.thenR ?_
      refine T.thenR ?_
      refine T.blkR ?_
      refine T.thenR ?_
      exact T.ret1 rfl rfl ⟨ys, congrArg Value.bool hbad.symm, hS, rfl, rfl⟩ qD qF
    · try simp only [decide_eq_true_eq, decide_eq_false_iff_not, Bool.not_eq_true', Bool.not_eq_false', Bool.and_eq_true, Bool.or_eq_true] at h19
      refine T.skip ?_
      refine T.blkN ?_
      refine T.thenN ?_
      refine T.region ?_
      refine L.addN rfl rfl rfl (by omega) ?_
      refine L.move rfl rfl ?_
      refine L.nil ?_
      refine T.thenN ?_
      exact T.back ⟨i + 1, ⟨by omega, by rw [all_take _ hn0, hall]; simp [toldB, stO, ← hp, Decidable.not_not.1 h19]⟩, rfl, rfl, rfl, rfl⟩ qI (.cons (t := 8) rfl <| SubK.nil _) (.cons (t := 0) rfl <| .cons (t := 6) rfl <| .cons (t := 7) rfl <| SubK.nil _) qD qD qF
  · try simp only [decide_eq_true_eq, decide_eq_false_iff_not, Bool.not_eq_true', Bool.not_eq_false', Bool.and_eq_true, Bool.or_eq_true] at h9
    obtain rfl : i = nn := by omega
    rw [List.take_of_length_le (by omega), h6] at hall
    refine T.exit ?_
    refine T.thenX ?_
    refine T.thenX ?_
    refine T.blkX ?_
    refine T.thenN ?_
    refine T.seq ?_
    refine T.region ?_
    refine L.assign rfl rfl ?_
    refine L.nil ?_
    refine T.thenN ?_
    refine T.ret ?_
    exact T.ret1 rfl rfl ⟨ys, congrArg Value.bool hall.symm, hS, rfl, rfl⟩ qD qF
set_option maxHeartbeats 400000 in
theorem nearest_spec {b m1 m2 : Nat} {g : List UInt8} {o : Int} {lo : OfM} (hg : g.length = 32) (hlo : lo.length ≤ 64) : Spec Try.prog 18 [.pointer (some ⟨b, 0, none⟩)] [cl b 62 (hdrS g o m1 m2)] [mp m1 iK oneV (lo)] (fun v D' M' => ∃ (a' : Option Addr) (n' c' : Nat) (ys : List Int), v = .slice a' n' c' ∧ (SortedBy (cfG g) (liveK lo) ys) ∧ (((ys.filter (toldB lo)).take 6).length = n') ∧ D' = [] ∧ M' = [mp m1 iK oneV (lo), own 1 3 a' n' c' (((ys.filter (toldB lo)).take 6).map e3)]) := by
  refine Spec.intro (n := 36) Try.func18 rfl rfl (by decide) (Nat.le_of_ble_eq_true rfl) rfl (fun _ => qA) (fun _ => qA) ?_
  intro σ D M
  refine T.seq ?_
  refine T.region ?_
  refine L.assign rfl rfl ?_
  refine L.nil ?_
  refine T.thenN ?_
  refine T.seq ?_
  refine T.region ?_
  refine L.assign rfl rfl ?_
  refine L.nil ?_
  refine T.newOwn (sz := 1) (e := 3) ?_
  refine T.thenN ?_
  refine T.seq ?_
  refine T.seq ?_
  refine T.region ?_
  refine L.move rfl rfl ?_
  refine L.move rfl rfl ?_
  refine L.nilCheck rfl rfl ?_
  first | refine L.field0 rfl fo62_2 rfl ?_ | refine L.field rfl fo62_2 rfl ?_
  refine L.load rfl sc60 rfl qC ?_
  refine L.lenMap rfl Try.underlying60 rfl qM ?_
  refine L.call rfl (evs.cons rfl <| evs.cons rfl <| evs.nil) qD qS (near_spec (lo := lo) (k := lo.length) hg hlo (by omega)) ?_
  rintro _ _ _ ⟨na, nn, nc, ys, rfl, hS, hnn0, rfl, rfl⟩
  refine L.norm qA qA ?_
  have hyl := hS.1.length_eq
  have htl : (ys.take nn).length = nn := by rw [List.length_take]; omega
  refine L.lenSl rfl Try.underlying22 rfl ?_
  refine L.move rfl rfl ?_
  refine L.nil ?_
  refine T.ownRsl (rows := (ys.take nn).map e3) qP ?_
  have hlv : (liveK lo).length ≤ lo.length := by unfold liveK; rw [List.length_map]; exact List.length_filter_le _ _
  have h6 : ys.take nn = ys := by rw [hnn0, Nat.min_eq_right (by omega)]; exact List.take_of_length_le (Nat.le_refl _)
  refine T.thenN ?_
  refine T.block ?_
  refine T.loop (fun K' D' M' μ => ∃ (i : Nat) (a3 : Option Addr) (n3 c3 : Nat), (i ≤ nn ∧ n3 ≤ i ∧ (((ys.take nn).take i).filter (toldB lo)).length = n3) ∧ K' = [(14, .int .i64 i), (3, .slice a3 n3 c3)] ∧ D' = [] ∧ M' = [mp m1 iK oneV (lo), own 1 3 a3 n3 c3 ((((ys.take nn).take i).filter (toldB lo)).map e3)] ∧ μ = nn - i) (.cons (t := 0) rfl <| .cons (t := 12) rfl <| .cons (t := 13) rfl <| SubK.nil _) (⟨0, none, 0, 0, ⟨by omega, by omega, rfl⟩, rfl, rfl, rfl, rfl⟩) (.cons (t := 14) rfl <| .cons (t := 3) rfl <| SubK.nil _) qD qS ?_
  rintro K1 D1 M1 m1 ⟨i, a3, n3, c3, ⟨hi, hi3, hl3⟩, rfl, rfl, rfl, rfl⟩
  refine T.norm3 qA qA qA ?_
  refine T.seq ?_
  refine T.region ?_
  refine L.ltI rfl rfl rfl ?_
  refine L.nil ?_
  refine T.thenN ?_
  refine T.seq ?_
  refine T.cond rfl (fun h15 => ?_) (fun h15 => ?_)
  · try simp only [decide_eq_true_eq, decide_eq_false_iff_not, Bool.not_eq_true', Bool.not_eq_false', Bool.and_eq_true, Bool.or_eq_true] at h15
    refine T.skip ?_
    refine T.thenN ?_
    refine T.seq ?_
    refine T.block ?_
    refine T.seq ?_
    have hn0 : (ys.take nn)[i]? = some (gd (ys.take nn) i) := gd_get (by omega)
    obtain ⟨n, hnn⟩ : ∃ n, n = gd (ys.take nn) i := ⟨_, rfl⟩
    rw [← hnn] at hn0
    refine T.region ?_
    refine L.idx (i := i) rfl Try.underlying22 sz3 rfl rfl qM (by first | rfl | omega | (simp; done)) qG (fun b16 o16 => ?_)
    refine L.load rfl sc3 rfl qC ?_
    refine L.assign rfl rfl ?_
    refine L.nil ?_
    refine T.thenN ?_
    refine T.seq ?_
    refine T.region ?_
    refine L.move rfl rfl ?_
    refine L.nilCheck rfl rfl ?_
    first | refine L.field0 rfl fo62_2 rfl ?_ | refine L.field rfl fo62_2 rfl ?_
    refine L.load rfl sc60 rfl qC ?_
    refine L.move rfl rfl ?_
    refine L.lookup1 (kenc := iK) (venc := oneV) (l := lo) (k := n) rfl Try.underlying60 kt3 zv68 rfl rfl qM ?_
    obtain ⟨p, hp⟩ : ∃ p, p = (look (lo) n).getD (0, 0) := ⟨_, rfl⟩
    refine L.known (t := 23) (u := .agg #[.int .i64 p.1, .int .i64 p.2]) rfl (by rw [one_get, ← hp]) ?_
    refine L.fieldV (off := 0) rfl Try.underlying68 rfl sc3 rfl rfl ?_
    refine L.eqI rfl rfl rfl ?_
    refine L.nil ?_
    refine T.thenN ?_
    refine T.cond rfl (fun h25 => ?_) (fun h25 => ?_)
    · try simp only [decide_eq_true_eq, decide_eq_false_iff_not, Bool.not_eq_true', Bool.not_eq_false', Bool.and_eq_true, Bool.or_eq_true] at h25
      refine T.region ?_
      refine L.move rfl rfl ?_
      refine L.move rfl rfl ?_
      refine L.buildSlice rfl bs22 (by decide) (BP.one rfl rfl rfl <| BP.doneE (out := []) rfl) (fun b28 => ?_)
      refine L.append1 rfl Try.underlying22 el3 rfl rfl qP qM rfl qO1 qI qI (fun a29 c29 => ?_)
      refine L.assign rfl rfl ?_
      refine L.nil ?_
      refine T.blkN ?_
      refine T.thenN ?_
      refine T.region ?_
      refine L.addN rfl rfl rfl (by omega) ?_
      refine L.move rfl rfl ?_
      refine L.nil ?_
      refine T.thenN ?_
      have hfe : ((ys.take nn).take (i + 1)).filter (toldB lo) = ((ys.take nn).take i).filter (toldB lo) ++ [n] := by rw [filt_take _ hn0, if_pos (by simp [toldB, stO, ← hp, h25])]
      refine T.ownEq _ ((((ys.take nn).take (i + 1)).filter (toldB lo)).map e3) qP (by rw [hfe, List.map_append]; rfl) ?_
      exact T.back ⟨i + 1, _, n3 + 1, _, ⟨by omega, by omega, by rw [hfe, List.length_append, hl3]; rfl⟩, rfl, rfl, rfl, rfl⟩ qI (.cons (t := 14) rfl <| .cons (t := 3) rfl <| SubK.nil _) (.cons (t := 0) rfl <| .cons (t := 12) rfl <| .cons (t := 13) rfl <| SubK.nil _) qD qD qF
    · try simp only [decide_eq_true_eq, decide_eq_false_iff_not, Bool.not_eq_true', Bool.not_eq_false', Bool.and_eq_true, Bool.or_eq_true] at h25
      refine T.skip ?_
      refine T.blkN ?_
      refine T.thenN ?_
      refine T.region ?_
      refine L.addN rfl rfl rfl (by omega) ?_
      refine L.move rfl rfl ?_
      refine L.nil ?_
      refine T.thenN ?_
      have hfe : ((ys.take nn).take (i + 1)).filter (toldB lo) = ((ys.take nn).take i).filter (toldB lo) := by rw [filt_take _ hn0, if_neg (by simp [toldB, stO, ← hp, h25]), List.append_nil]
      refine T.ownEq _ ((((ys.take nn).take (i + 1)).filter (toldB lo)).map e3) qP (by rw [hfe]) ?_
      exact T.back ⟨i + 1, _, n3, _, ⟨by omega, by omega, by rw [hfe]; exact hl3⟩, rfl, rfl, rfl, rfl⟩ qI (.cons (t := 14) rfl <| .cons (t := 3) rfl <| SubK.nil _) (.cons (t := 0) rfl <| .cons (t := 12) rfl <| .cons (t := 13) rfl <| SubK.nil _) qD qD qF
  · try simp only [decide_eq_true_eq, decide_eq_false_iff_not, Bool.not_eq_true', Bool.not_eq_false', Bool.and_eq_true, Bool.or_eq_true] at h15
    obtain rfl : i = nn := by omega
    rw [List.take_of_length_le (by omega), h6] at hl3 ⊢
    refine T.exit ?_
    refine T.thenX ?_
    refine T.thenX ?_
    refine T.blkX ?_
    refine T.thenN ?_
    refine T.seq ?_
    refine T.ownLen (rows := (ys.filter (toldB lo)).map e3) qM (fun _ hcap => ?_)
    refine T.region ?_
    refine L.move rfl rfl ?_
    refine L.move rfl rfl ?_
    refine L.lenSl rfl Try.underlying22 rfl ?_
    refine L.minI rfl rfl rfl ?_
    rw [show min (6 : Int) (n3 : Int) = ((min 6 n3 : Nat) : Int) by omega]
    refine L.sliceTo rfl Try.underlying22 sz3 rfl (Bd.at (x := min 6 n3) rfl (by first | rfl | omega | (simp; done))) qI ?_
    refine L.assign rfl rfl ?_
    refine L.nil ?_
    refine T.ownTo (h := min 6 n3) qP (by omega) ?_
    refine T.ownEq _ (((ys.filter (toldB lo)).take (min 6 n3)).map e3) qP (by rw [List.map_take]) ?_
    refine T.thenN ?_
    refine T.ret ?_
    exact T.ret1 rfl rfl ⟨_, _, _, ys, rfl, hS, by rw [List.length_take, hl3], rfl, by rw [tk6 hl3]⟩ qD qF
set_option maxHeartbeats 400000 in
theorem ask_spec {b m1 m2 : Nat} {g : List UInt8} {o : Int} {lo : OfM} {now : Int} (hg : g.length = 32) (hlo : lo.length ≤ 64) (hsb : SinceB lo) (hnow : 0 ≤ now ∧ now ≤ 1000000) : Spec Try.prog 14 [.pointer (some ⟨b, 0, none⟩), .int .i64 now] [cl b 62 (hdrS g o m1 m2)] [mp m1 iK oneV (lo)] (fun v D' M' => ∃ (a' : Option Addr) (n' c' : Nat) (ys out : List Int) (l2 : OfM), v = .slice a' n' c' ∧ (SortedBy (cfG g) (liveK (lateF now lo)) ys) ∧ (askF now (3 - (cntS (lateF now lo) 1 : Int)) (ys.take 6) (lateF now lo) [] = (l2, out)) ∧ (out.length = n') ∧ D' = [] ∧ M' = [mp m1 iK oneV (l2), own 1 3 a' n' c' ((out).map e3)]) := by
  refine Spec.intro (n := 75) Try.func14 rfl rfl (by decide) (Nat.le_of_ble_eq_true rfl) rfl (fun _ => qA) (fun _ => qA) ?_
  intro σ D M
  refine T.mpNodup (kenc := iK) (venc := oneV) qM (fun hnd => ?_)
  refine T.seq ?_
  refine T.region ?_
  refine L.assign rfl rfl ?_
  refine L.nil ?_
  refine T.thenN ?_
  refine T.seq ?_
  refine T.seq ?_
  refine T.region ?_
  refine L.move rfl rfl ?_
  refine L.nilCheck rfl rfl ?_
  first | refine L.field0 rfl fo62_2 rfl ?_ | refine L.field rfl fo62_2 rfl ?_
  refine L.load rfl sc60 rfl qC ?_
  refine L.range rfl Try.underlying60 rfl qP (fun it => ?_)
  refine L.nil ?_
  refine T.eqv qP (show mpi m1 it iK oneV lo (lo.map Prod.fst) none = mpi m1 it iK oneV (lateR now lo (lo.map Prod.fst)) (lo.map Prod.fst) none from by rw [lateR_0]) ?_
  refine T.thenN ?_
  refine T.block ?_
  refine T.loop (fun K' D' M' μ => ∃ (rest : List Int) (cur : Option Int), (rest.Nodup) ∧ K' = [] ∧ D' = [] ∧ M' = [mpi m1 it iK oneV (lateR now lo rest) rest cur] ∧ μ = rest.length) (.cons (t := 0) rfl <| .cons (t := 1) rfl <| .cons (t := 15) rfl <| SubK.nil _) (⟨_, _, hnd, rfl, rfl, rfl, rfl⟩) (SubK.nil _) qD qS ?_
  rintro K1 D1 M1 m1 ⟨rest, cur, hrn, rfl, rfl, rfl, rfl⟩
  refine T.norm3 qA qA qA ?_
  refine T.seq ?_
  refine T.region ?_
  refine L.next rfl rfl qP (fun hre => ?_) (fun k v rs hpe hkv => ?_)
  · skip
    skip
    refine L.extract rfl rfl rfl ?_
    refine L.nil ?_
    refine T.thenN ?_
    refine T.seq ?_
    refine T.condF rfl rfl ?_
    refine T.exit ?_
    refine T.thenX ?_
    refine T.thenX ?_
    refine T.blkX ?_
    refine T.thenN ?_
    refine T.seq ?_
    subst hre
    refine T.mpiMp qP ?_
    rw [lateR_fin]
    have hll : (lateF now lo).length ≤ 64 := by unfold lateF; rw [List.length_map]; exact hlo
    have hcl := cnt_le (lateF now lo) 1
    refine T.region ?_
    refine L.assign rfl rfl ?_
    refine L.nil ?_
    refine T.newOwn (sz := 1) (e := 3) ?_
    refine T.thenN ?_
    refine T.seq ?_
    refine T.region ?_
    refine L.move rfl rfl ?_
    refine L.call rfl (evs.cons rfl <| evs.cons rfl <| evs.nil) qD qS (scount_spec (lo := lateF now lo) (st := 1) hg (by omega)) ?_
    rintro _ _ _ ⟨rfl, rfl, rfl⟩
    refine L.norm qA qA ?_
    refine L.subN rfl rfl rfl (by omega) ?_
    refine L.assign rfl rfl ?_
    refine L.nil ?_
    refine T.thenN ?_
    refine T.seq ?_
    refine T.seq ?_
    refine T.region ?_
    refine L.move rfl rfl ?_
    refine L.call rfl (evs.cons rfl <| evs.cons rfl <| evs.nil) qD qS (near_spec (lo := lateF now lo) (k := 6) hg hll (by omega)) ?_
    rintro _ _ _ ⟨na, nn, nc, ys, rfl, hS, hnn0, rfl, rfl⟩
    refine L.norm qA qA ?_
    have hyl := hS.1.length_eq
    have htl : (ys.take nn).length = nn := by rw [List.length_take]; omega
    refine L.lenSl rfl Try.underlying22 rfl ?_
    refine L.move rfl rfl ?_
    refine L.nil ?_
    refine T.ownRsl (rows := (ys.take nn).map e3) qP ?_
    have h6 : ys.take nn = ys.take 6 := by rw [hnn0]; exact (tk6 rfl).symm
    obtain ⟨room, hroom⟩ : ∃ room : Int, room = 3 - (cntS (lateF now lo) 1 : Int) := ⟨_, rfl⟩
    rw [← hroom]
    refine T.thenN ?_
    refine T.block ?_
    refine T.loop (fun K' D' M' μ => ∃ (i : Nat) (a7 : Option Addr) (n7 c7 : Nat) (out : List Int) (l2 : OfM), (i ≤ nn ∧ n7 ≤ i ∧ out.length = n7 ∧ askF now room ((ys.take nn).drop i) l2 out = askF now room (ys.take nn) (lateF now lo) []) ∧ K' = [(44, .int .i64 i), (7, .slice a7 n7 c7)] ∧ D' = [] ∧ M' = [mp m1 iK oneV (l2), own 1 3 a7 n7 c7 ((out).map e3)] ∧ μ = nn - i) (.cons (t := 0) rfl <| .cons (t := 1) rfl <| .cons (t := 8) rfl <| .cons (t := 42) rfl <| .cons (t := 43) rfl <| SubK.nil _) (⟨0, none, 0, 0, [], _, ⟨by omega, by omega, rfl, rfl⟩, rfl, rfl, rfl, rfl⟩) (.cons (t := 44) rfl <| .cons (t := 7) rfl <| SubK.nil _) qD qS ?_
    rintro K1 D1 M1 m1 ⟨i, a7, n7, c7, out, l2, ⟨hi, hi7, hol, hA⟩, rfl, rfl, rfl, rfl⟩
    refine T.norm3 qA qA qA ?_
    refine T.seq ?_
    refine T.region ?_
    refine L.ltI rfl rfl rfl ?_
    refine L.nil ?_
    refine T.thenN ?_
    refine T.seq ?_
    refine T.cond rfl (fun h45 => ?_) (fun h45 => ?_)
    · try simp only [decide_eq_true_eq, decide_eq_false_iff_not, Bool.not_eq_true', Bool.not_eq_false', Bool.and_eq_true, Bool.or_eq_true] at h45
      refine T.skip ?_
      refine T.thenN ?_
      refine T.seq ?_
      refine T.block ?_
      refine T.seq ?_
      have hn0 : (ys.take nn)[i]? = some (gd (ys.take nn) i) := gd_get (by omega)
      obtain ⟨n, hnn⟩ : ∃ n, n = gd (ys.take nn) i := ⟨_, rfl⟩
      rw [← hnn] at hn0
      refine T.region ?_
      refine L.idx (i := i) rfl Try.underlying22 sz3 rfl rfl qM (by first | rfl | omega | (simp; done)) qG (fun b46 o46 => ?_)
      refine L.load rfl sc3 rfl qC ?_
      refine L.assign rfl rfl ?_
      refine L.nil ?_
      refine T.thenN ?_
      refine T.seq ?_
      refine T.cutC (fun K' D' M' => ∃ (w : Bool), (w = true ↔ ((out.length : Int) < room ∧ stO l2 n = 0)) ∧ K' = [(61, .bool w)] ∧ D' = [] ∧ M' = []) (M0 := []) (.cons (t := 0) rfl <| .cons (t := 1) rfl <| .cons (t := 7) rfl <| .cons (t := 8) rfl <| .cons (t := 10) rfl <| .cons (t := 42) rfl <| .cons (t := 43) rfl <| .cons (t := 44) rfl <| SubK.nil _) qS ?_ ?_
      · skip
        rcases Decidable.em ((out.length : Int) < room) with hs | hs
        · skip
          refine T.region ?_
          refine L.move rfl rfl ?_
          refine L.move rfl rfl ?_
          refine L.lenSl rfl Try.underlying22 rfl ?_
          refine L.gtI rfl rfl rfl ?_
          refine L.move rfl rfl ?_
          refine L.known (t := 52) rfl (show _ = Value.bool true from congrArg Value.bool (decide_eq_true (by omega))) ?_
          refine L.guardT (dj := 52) rfl rfl rfl ?_
          refine L.move rfl rfl ?_
          refine L.guardT (dj := 52) rfl rfl rfl ?_
          refine L.nilCheck rfl rfl ?_
          refine L.guardT (dj := 52) rfl rfl rfl ?_
          first | refine L.field0 rfl fo62_2 rfl ?_ | refine L.field rfl fo62_2 rfl ?_
          refine L.guardT (dj := 52) rfl rfl rfl ?_
          refine L.load rfl sc60 rfl qC ?_
          refine L.guardT (dj := 52) rfl rfl rfl ?_
          refine L.move rfl rfl ?_
          refine L.guardT (dj := 52) rfl rfl rfl ?_
          refine L.lookup1 (kenc := iK) (venc := oneV) (l := l2) (k := n) rfl Try.underlying60 kt3 zv68 rfl rfl qM ?_
          obtain ⟨p, hp⟩ : ∃ p, p = (look (l2) n).getD (0, 0) := ⟨_, rfl⟩
          refine L.known (t := 58) (u := .agg #[.int .i64 p.1, .int .i64 p.2]) rfl (by rw [one_get, ← hp]) ?_
          refine L.guardT (dj := 52) rfl rfl rfl ?_
          refine L.fieldV (off := 0) rfl Try.underlying68 rfl sc3 rfl rfl ?_
          refine L.guardT (dj := 52) rfl rfl rfl ?_
          refine L.eqI rfl rfl rfl ?_
          refine L.pickT rfl rfl rfl ?_
          refine L.nil ?_
          refine T.thenN ?_
          exact T.toJoin ⟨_, (by rw [decide_eq_true_eq]; unfold stO; rw [← hp]; exact ⟨fun h => ⟨hs, h⟩, fun h => h.2⟩), rfl, rfl, rfl⟩ (.cons (t := 61) rfl <| SubK.nil _) (.cons (t := 0) rfl <| .cons (t := 1) rfl <| .cons (t := 7) rfl <| .cons (t := 8) rfl <| .cons (t := 10) rfl <| .cons (t := 42) rfl <| .cons (t := 43) rfl <| .cons (t := 44) rfl <| SubK.nil _) qD qD qF
        · skip
          refine T.region ?_
          refine L.move rfl rfl ?_
          refine L.move rfl rfl ?_
          refine L.lenSl rfl Try.underlying22 rfl ?_
          refine L.gtI rfl rfl rfl ?_
          refine L.move rfl rfl ?_
          refine L.known (t := 52) rfl (show _ = Value.bool false from congrArg Value.bool (decide_eq_false (by omega))) ?_
          refine L.guardF (dj := 52) (c := false) rfl rfl rfl rfl rfl (by decide) ?_
          refine L.guardF (dj := 52) (c := false) rfl rfl rfl rfl rfl (by decide) ?_
          refine L.guardF (dj := 52) (c := false) rfl rfl rfl rfl rfl (by decide) ?_
          refine L.guardF (dj := 52) (c := false) rfl rfl rfl rfl rfl (by decide) ?_
          refine L.guardF (dj := 52) (c := false) rfl rfl rfl rfl rfl (by decide) ?_
          refine L.guardF (dj := 52) (c := false) rfl rfl rfl rfl rfl (by decide) ?_
          refine L.guardF (dj := 52) (c := false) rfl rfl rfl rfl rfl (by decide) ?_
          refine L.guardF (dj := 52) (c := false) rfl rfl rfl rfl rfl (by decide) ?_
          refine L.pickF rfl rfl rfl ?_
          refine L.nil ?_
          refine T.thenN ?_
          exact T.toJoin ⟨_, ⟨(fun h => by cases h), (fun h => absurd h.1 hs)⟩, rfl, rfl, rfl⟩ (.cons (t := 61) rfl <| SubK.nil _) (.cons (t := 0) rfl <| .cons (t := 1) rfl <| .cons (t := 7) rfl <| .cons (t := 8) rfl <| .cons (t := 10) rfl <| .cons (t := 42) rfl <| .cons (t := 43) rfl <| .cons (t := 44) rfl <| SubK.nil _) qD qD qF
      rintro _ _ _ ⟨w, hw, rfl, rfl, rfl⟩
      refine T.norm3 qA qA qA ?_
      refine T.thenN ?_
      refine T.cond rfl (fun h61 => ?_) (fun h61 => ?_)
      · try simp only [decide_eq_true_eq, decide_eq_false_iff_not, Bool.not_eq_true', Bool.not_eq_false', Bool.and_eq_true, Bool.or_eq_true] at h61
        refine T.seq ?_
        refine T.region ?_
        refine L.move rfl rfl ?_
        refine L.nilCheck rfl rfl ?_
        first | refine L.field0 rfl fo62_2 rfl ?_ | refine L.field rfl fo62_2 rfl ?_
        refine L.load rfl sc60 rfl qC ?_
        refine L.move rfl rfl ?_
        refine L.move rfl rfl ?_
        refine L.build rfl bu68 (BP.one rfl rfl rfl <| BP.one rfl rfl rfl <| BP.doneE (out := []) rfl) ?_
        refine L.mapUpdate (kenc := iK) (venc := oneV) (l := l2) (k := n) (v := (1, now)) Try.underlying60 kt3 rfl rfl rfl rfl qP ?_
        refine L.nil ?_
        refine T.thenN ?_
        refine T.region ?_
        refine L.move rfl rfl ?_
        refine L.move rfl rfl ?_
        refine L.buildSlice rfl bs22 (by decide) (BP.one rfl rfl rfl <| BP.doneE (out := []) rfl) (fun b71 => ?_)
        refine L.append1 rfl Try.underlying22 el3 rfl rfl qP qM rfl qO1 qI qI (fun a72 c72 => ?_)
        refine L.assign rfl rfl ?_
        refine L.nil ?_
        refine T.blkN ?_
        refine T.thenN ?_
        refine T.region ?_
        refine L.addN rfl rfl rfl (by omega) ?_
        refine L.move rfl rfl ?_
        refine L.nil ?_
        refine T.thenN ?_
        refine T.ownEq _ ((out ++ [n]).map e3) qP (by rw [List.map_append]; rfl) ?_
        exact T.back ⟨i + 1, _, n7 + 1, _, out ++ [n], put l2 n (1, now), ⟨by omega, by omega, by simp [hol], by rw [askF_drop hn0, if_pos (hw.1 h61)] at hA; exact hA⟩, rfl, rfl, rfl, rfl⟩ qI (.cons (t := 44) rfl <| .cons (t := 7) rfl <| SubK.nil _) (.cons (t := 0) rfl <| .cons (t := 1) rfl <| .cons (t := 8) rfl <| .cons (t := 42) rfl <| .cons (t := 43) rfl <| SubK.nil _) qD qD qF
      · try simp only [decide_eq_true_eq, decide_eq_false_iff_not, Bool.not_eq_true', Bool.not_eq_false', Bool.and_eq_true, Bool.or_eq_true] at h61
        refine T.skip ?_
        refine T.blkN ?_
        refine T.thenN ?_
        refine T.region ?_
        refine L.addN rfl rfl rfl (by omega) ?_
        refine L.move rfl rfl ?_
        refine L.nil ?_
        refine T.thenN ?_
        exact T.back ⟨i + 1, _, n7, _, out, l2, ⟨by omega, by omega, hol, by rw [askF_drop hn0, if_neg (fun e => by rw [hw.2 e] at h61; cases h61)] at hA; exact hA⟩, rfl, rfl, rfl, rfl⟩ qI (.cons (t := 44) rfl <| .cons (t := 7) rfl <| SubK.nil _) (.cons (t := 0) rfl <| .cons (t := 1) rfl <| .cons (t := 8) rfl <| .cons (t := 42) rfl <| .cons (t := 43) rfl <| SubK.nil _) qD qD qF
    · try simp only [decide_eq_true_eq, decide_eq_false_iff_not, Bool.not_eq_true', Bool.not_eq_false', Bool.and_eq_true, Bool.or_eq_true] at h45
      obtain rfl : i = nn := by omega
      rw [List.drop_eq_nil_of_le (by omega), h6] at hA
      refine T.exit ?_
      refine T.thenX ?_
      refine T.thenX ?_
      refine T.blkX ?_
      refine T.thenN ?_
      refine T.seq ?_
      refine T.region ?_
      refine L.move rfl rfl ?_
      refine L.assign rfl rfl ?_
      refine L.nil ?_
      refine T.thenN ?_
      refine T.ret ?_
      exact T.ret1 rfl rfl ⟨_, _, _, ys, out, l2, rfl, hS, by rw [← hA]; rfl, hol, rfl, rfl⟩ qD qF
  · skip
    skip
    refine L.extract rfl rfl rfl ?_
    refine L.nil ?_
    refine T.thenN ?_
    refine T.seq ?_
    refine T.condT rfl rfl ?_
    refine T.skip ?_
    refine T.thenN ?_
    refine T.block ?_
    refine T.seq ?_
    refine T.region ?_
    refine L.entry (ent_inj iK_inj (by rw [lateR_keys]; exact hnd) hkv) rfl rfl qM hkv ?_
    refine L.extract rfl rfl rfl ?_
    refine L.extract rfl rfl rfl ?_
    refine L.alloc rfl ze68 (fun b6 => ?_)
    refine L.assign rfl rfl ?_
    refine L.storeA ag68 rfl rfl qL qO qU qW ?_
    refine L.nil ?_
    obtain ⟨hkm, hls⟩ := late_step hnd hrn hpe hkv
    have hvb : 0 ≤ v.2 ∧ v.2 ≤ 1000000 := hsb _ hkm
    have hrs : rs.Nodup := (List.nodup_cons.1 (hpe.nodup_iff.1 hrn)).2
    refine T.thenN ?_
    refine T.seq ?_
    refine T.cutC (fun K' D' M' => ∃ (w : Bool), (w = true ↔ (v.1 = 1 ∧ 8 ≤ now - v.2)) ∧ K' = [(30, .bool w)] ∧ D' = [] ∧ M' = []) (M0 := []) (.cons (t := 0) rfl <| .cons (t := 1) rfl <| .cons (t := 5) rfl <| .cons (t := 15) rfl <| SubK.nil _) qS ?_ ?_
    · skip
      rcases Decidable.em (v.1 = 1) with hs | hs
      · skip
        refine T.region ?_
        first | refine L.field0 rfl fo68_0 rfl ?_ | refine L.field rfl fo68_0 rfl ?_
        refine L.load rfl sc3 rfl qC ?_
        refine L.eqI rfl rfl rfl ?_
        refine L.move rfl rfl ?_
        refine L.known (t := 24) rfl (show _ = Value.bool true from congrArg Value.bool (decide_eq_true hs)) ?_
        refine L.guardT (dj := 24) rfl rfl rfl ?_
        refine L.move rfl rfl ?_
        refine L.guardT (dj := 24) rfl rfl rfl ?_
        first | refine L.field0 rfl fo68_1 rfl ?_ | refine L.field rfl fo68_1 rfl ?_
        refine L.guardT (dj := 24) rfl rfl rfl ?_
        refine L.load rfl sc3 rfl qC ?_
        refine L.guardT (dj := 24) rfl rfl rfl ?_
        refine L.subN rfl rfl rfl (by omega) ?_
        refine L.guardT (dj := 24) rfl rfl rfl ?_
        refine L.geI rfl rfl rfl ?_
        refine L.pickT rfl rfl rfl ?_
        refine L.nil ?_
        refine T.thenN ?_
        exact T.toJoin ⟨_, (by rw [decide_eq_true_eq]; exact ⟨fun h => ⟨hs, h⟩, fun h => h.2⟩), rfl, rfl, rfl⟩ (.cons (t := 30) rfl <| SubK.nil _) (.cons (t := 0) rfl <| .cons (t := 1) rfl <| .cons (t := 5) rfl <| .cons (t := 15) rfl <| SubK.nil _) qD qD qF
      · skip
        refine T.region ?_
        first | refine L.field0 rfl fo68_0 rfl ?_ | refine L.field rfl fo68_0 rfl ?_
        refine L.load rfl sc3 rfl qC ?_
        refine L.eqI rfl rfl rfl ?_
        refine L.move rfl rfl ?_
        refine L.known (t := 24) rfl (show _ = Value.bool false from congrArg Value.bool (decide_eq_false hs)) ?_
        refine L.guardF (dj := 24) (c := false) rfl rfl rfl rfl rfl (by decide) ?_
        refine L.guardF (dj := 24) (c := false) rfl rfl rfl rfl rfl (by decide) ?_
        refine L.guardF (dj := 24) (c := false) rfl rfl rfl rfl rfl (by decide) ?_
        refine L.guardF (dj := 24) (c := false) rfl rfl rfl rfl rfl (by decide) ?_
        refine L.guardF (dj := 24) (c := false) rfl rfl rfl rfl rfl (by decide) ?_
        refine L.pickF rfl rfl rfl ?_
        refine L.nil ?_
        refine T.thenN ?_
        exact T.toJoin ⟨_, ⟨(fun h => by cases h), (fun h => absurd h.1 hs)⟩, rfl, rfl, rfl⟩ (.cons (t := 30) rfl <| SubK.nil _) (.cons (t := 0) rfl <| .cons (t := 1) rfl <| .cons (t := 5) rfl <| .cons (t := 15) rfl <| SubK.nil _) qD qD qF
    rintro _ _ _ ⟨w, hw, rfl, rfl, rfl⟩
    refine T.norm3 qA qA qA ?_
    refine T.thenN ?_
    refine T.cond rfl (fun h30 => ?_) (fun h30 => ?_)
    · try simp only [decide_eq_true_eq, decide_eq_false_iff_not, Bool.not_eq_true', Bool.not_eq_false', Bool.and_eq_true, Bool.or_eq_true] at h30
      refine T.region ?_
      refine L.move rfl rfl ?_
      refine L.nilCheck rfl rfl ?_
      first | refine L.field0 rfl fo62_2 rfl ?_ | refine L.field rfl fo62_2 rfl ?_
      refine L.load rfl sc60 rfl qC ?_
      refine L.move rfl rfl ?_
      refine L.move rfl rfl ?_
      refine L.build rfl bu68 (BP.one rfl rfl rfl <| BP.one rfl rfl rfl <| BP.doneE (out := []) rfl) ?_
      refine L.mapUpdateI (kenc := iK) (venc := oneV) (l := lateR now lo rest) (k := k) (v := (3, now)) Try.underlying60 kt3 rfl rfl rfl rfl (look_of_mem (by rw [lateR_keys]; exact hnd) hkv) qP ?_
      refine L.nil ?_
      refine T.blkN ?_
      refine T.thenN ?_
      refine T.eqv qP (show mpi m1 it iK oneV (put (lateR now lo rest) k (3, now)) rs none = mpi m1 it iK oneV (lateR now lo rs) rs none from by rw [← hls, if_pos (hw.1 h30)]) ?_
      exact T.back ⟨rs, none, hrs, rfl, rfl, rfl, rfl⟩ (by have := hpe.length_eq; simp at this; omega) (SubK.nil _) (.cons (t := 0) rfl <| .cons (t := 1) rfl <| .cons (t := 15) rfl <| SubK.nil _) qD qD qF
    · try simp only [decide_eq_true_eq, decide_eq_false_iff_not, Bool.not_eq_true', Bool.not_eq_false', Bool.and_eq_true, Bool.or_eq_true] at h30
      refine T.skip ?_
      refine T.blkN ?_
      refine T.thenN ?_
      refine T.eqv qP (show mpi m1 it iK oneV (lateR now lo rest) rs (some k) = mpi m1 it iK oneV (lateR now lo rs) rs (some k) from by rw [← hls, if_neg (fun e => by rw [hw.2 e] at h30; cases h30)]) ?_
      exact T.back ⟨rs, some k, hrs, rfl, rfl, rfl, rfl⟩ (by have := hpe.length_eq; simp at this; omega) (SubK.nil _) (.cons (t := 0) rfl <| .cons (t := 1) rfl <| .cons (t := 15) rfl <| SubK.nil _) qD qD qF
set_option maxHeartbeats 400000 in
theorem hear_spec {b m1 m2 : Nat} {g : List UInt8} {o : Int} {lo : OfM} {lh : List (Int × Int)} {kind fr to_ sq what : Int} {id tx : List UInt8} {pa ha : Option Addr} {pl pc hl hc : Nat} {ps hs : List Int} (hg : g.length = 32) (hid : id.length = 32) (hpl : pl ≤ 4611686018427387000) (hhl : hl ≤ 4611686018427387000) : Spec Try.prog 15 [.pointer (some ⟨b, 0, none⟩), .agg (letV kind fr to_ sq id what tx pa pl pc ha hl hc).toArray] [cl b 62 (hdrS g o m1 m2), rsl 1 pa pl pc (ps.map e3), rsl 1 ha hl hc (hs.map e3)] [mp m1 iK oneV (lo), mp m2 iK iK (lh)] (fun v D' M' => v = .bool (decide (Answ g lo kind fr id)) ∧ D' = [] ∧ M' = [mp m1 iK oneV (if Answ g lo kind fr id then meetF o (put lo fr (2, inO lo fr)) ps else lo), mp m2 iK iK (if Answ g lo kind fr id then hearF o lh hs else lh)]) := by
  refine Spec.intro (n := 72) Try.func15 rfl rfl (by decide) (Nat.le_of_ble_eq_true rfl) rfl (fun _ => qA) (fun _ => qA) ?_
  intro σ D M
  refine T.rslLen2 (rows := hs.map e3) qM (fun hsl hsc => ?_)
  rw [List.length_map] at hsl
  refine T.seq ?_
  refine T.region ?_
  refine L.box rfl rfl rfl (fun b3 => ?_)
  refine L.assign rfl rfl ?_
  refine L.nil ?_
  refine T.freeze (A := cl b3 38 (letV kind fr to_ sq id what tx pa pl pc ha hl hc)) qP ?_
  obtain ⟨p, hp⟩ : ∃ p, p = (look lo fr).getD (0, 0) := ⟨_, rfl⟩
  refine T.thenN ?_
  refine T.seq ?_
  refine T.cutC (fun K' D' M' => ∃ (b5 : Nat), K' = [(5, .pointer (some ⟨b5, 0, none⟩)), (6, .bool (look lo fr).isSome)] ∧ D' = [cl b5 68 [.int .i64 p.1, .int .i64 p.2]] ∧ M' = [mp m1 iK oneV (lo)]) (M0 := [mp m1 iK oneV (lo)]) (.cons (t := 0) rfl <| .cons (t := 3) rfl <| SubK.nil _) qS ?_ ?_
  · skip
    refine T.regionA (clsL [1, 1, 1, 1, 1, 1, 2, 1, 1, 1, 2, 2, 1]) (by kernel_rfl) ?_
    refine A.takeP (i := 0) rfl rfl rfl rfl (by kernel_rfl) (by kernel_rfl) (by kernel_rfl) rfl qD ?_
    refine L.move rfl rfl ?_
    refine A.took ?_
    refine A.nilCheckP (i := 1) rfl rfl (by kernel_rfl) (by kernel_rfl) (by kernel_rfl) rfl qD rfl ?_
    refine A.takeP (i := 2) rfl rfl rfl rfl (by kernel_rfl) (by kernel_rfl) (by kernel_rfl) rfl qD ?_
    first | refine L.field0 rfl fo62_2 rfl ?_ | refine L.field rfl fo62_2 rfl ?_
    refine A.took ?_
    refine A.takeP (i := 3) rfl rfl rfl rfl (by kernel_rfl) (by kernel_rfl) (by kernel_rfl) rfl qD ?_
    refine L.load rfl sc60 rfl qC ?_
    refine A.took ?_
    refine A.takeP (i := 4) rfl rfl rfl rfl (by kernel_rfl) (by kernel_rfl) (by kernel_rfl) rfl qD ?_
    first | refine L.field0 rfl fo38_1 rfl ?_ | refine L.field rfl fo38_1 rfl ?_
    refine A.took ?_
    refine A.takeP (i := 5) rfl rfl rfl rfl (by kernel_rfl) (by kernel_rfl) (by kernel_rfl) rfl qD ?_
    refine L.load rfl sc3 rfl qC ?_
    refine A.took ?_
    refine A.branch (is := [6, 10]) (by kernel_rfl) (by decide) (Each.cons rfl ?_ <| Each.cons rfl ?_ <| Each.nil) 
    · skip
      refine L.lookup2 (kenc := iK) (venc := oneV) (l := lo) (k := fr) rfl Try.underlying60 kt3 zv68 rfl rfl qM ?_
      refine L.known (t := 16) (u := .tuple #[.agg #[.int .i64 p.1, .int .i64 p.2], .bool (look (lo) fr).isSome]) rfl (by rw [one_get, ← hp]) ?_
      refine A.backT rfl qD ?_
      refine A.takeP (i := 7) rfl rfl rfl rfl (by kernel_rfl) (by kernel_rfl) (by kernel_rfl) rfl qD ?_
      refine L.move rfl rfl ?_
      refine A.took ?_
      refine A.takeP (i := 8) rfl rfl rfl rfl (by kernel_rfl) (by kernel_rfl) (by kernel_rfl) rfl qD ?_
      refine L.extract rfl rfl rfl ?_
      refine A.took ?_
      refine A.takeP (i := 9) rfl rfl rfl rfl (by kernel_rfl) (by kernel_rfl) (by kernel_rfl) rfl qD ?_
      refine L.extract rfl rfl rfl ?_
      refine A.took ?_
      refine A.branch (is := [10]) (by kernel_rfl) (by decide) (Each.cons rfl ?_ <| Each.nil) 
      refine L.alloc rfl ze68 (fun b5 => ?_)
      refine A.backT rfl qD ?_
      refine A.branch (is := [11]) (by kernel_rfl) (by decide) (Each.cons rfl ?_ <| Each.nil) 
      refine L.storeA ag68 rfl rfl qL qO qU qW ?_
      refine A.backT rfl qD ?_
      refine A.takeP (i := 12) rfl rfl rfl rfl (by kernel_rfl) (by kernel_rfl) (by kernel_rfl) rfl qD ?_
      refine L.assign rfl rfl ?_
      refine A.took ?_
      refine A.done (by kernel_rfl) ?_
      refine T.freeze (A := cl b5 68 [.int .i64 p.1, .int .i64 p.2]) qP ?_
      refine T.thenN ?_
      exact T.toJoin ⟨_, rfl, rfl, rfl⟩ (.cons (t := 5) rfl <| .cons (t := 6) rfl <| SubK.nil _) (.cons (t := 0) rfl <| .cons (t := 3) rfl <| SubK.nil _) qD qD qF
    · skip
      refine L.alloc rfl ze68 (fun b5 => ?_)
      refine A.backT rfl qD ?_
      refine A.branch (is := [6]) (by kernel_rfl) (by decide) (Each.cons rfl ?_ <| Each.nil) 
      refine L.lookup2 (kenc := iK) (venc := oneV) (l := lo) (k := fr) rfl Try.underlying60 kt3 zv68 rfl rfl qM ?_
      refine L.known (t := 16) (u := .tuple #[.agg #[.int .i64 p.1, .int .i64 p.2], .bool (look (lo) fr).isSome]) rfl (by rw [one_get, ← hp]) ?_
      refine A.backT rfl qD ?_
      refine A.takeP (i := 7) rfl rfl rfl rfl (by kernel_rfl) (by kernel_rfl) (by kernel_rfl) rfl qD ?_
      refine L.move rfl rfl ?_
      refine A.took ?_
      refine A.takeP (i := 8) rfl rfl rfl rfl (by kernel_rfl) (by kernel_rfl) (by kernel_rfl) rfl qD ?_
      refine L.extract rfl rfl rfl ?_
      refine A.took ?_
      refine A.takeP (i := 9) rfl rfl rfl rfl (by kernel_rfl) (by kernel_rfl) (by kernel_rfl) rfl qD ?_
      refine L.extract rfl rfl rfl ?_
      refine A.took ?_
      refine A.branch (is := [11]) (by kernel_rfl) (by decide) (Each.cons rfl ?_ <| Each.nil) 
      refine L.storeA ag68 rfl rfl qL qO qU qW ?_
      refine A.backT rfl qD ?_
      refine A.takeP (i := 12) rfl rfl rfl rfl (by kernel_rfl) (by kernel_rfl) (by kernel_rfl) rfl qD ?_
      refine L.assign rfl rfl ?_
      refine A.took ?_
      refine A.done (by kernel_rfl) ?_
      refine T.freeze (A := cl b5 68 [.int .i64 p.1, .int .i64 p.2]) qP ?_
      refine T.thenN ?_
      exact T.toJoin ⟨_, rfl, rfl, rfl⟩ (.cons (t := 5) rfl <| .cons (t := 6) rfl <| SubK.nil _) (.cons (t := 0) rfl <| .cons (t := 3) rfl <| SubK.nil _) qD qD qF
  rintro _ _ _ ⟨b5, rfl, rfl, rfl⟩
  refine T.norm3 qA qA qA ?_
  refine T.thenN ?_
  refine T.seq ?_
  refine T.seq ?_
  refine T.cutC (fun K' D' M' => ∃ (w : Bool), (w = false ↔ Answ g lo kind fr id) ∧ K' = [(39, .bool w)] ∧ D' = [] ∧ M' = []) (M0 := []) (.cons (t := 0) rfl <| .cons (t := 3) rfl <| .cons (t := 5) rfl <| SubK.nil _) qS ?_ ?_
  · skip
    rcases hear_cases (look lo fr) kind with hc1 | ⟨hc1, hc2⟩ | ⟨hc1, hc2, hc3⟩ | ⟨hc1, hc2, hc3⟩
    · skip
      refine T.regionQ (by kernel_rfl) (by kernel_rfl) ?_
      refine L.move rfl rfl ?_
      refine L.notB rfl rfl ?_
      refine L.move rfl rfl ?_
      refine L.known (t := 21) rfl (show _ = Value.bool true from congrArg Value.bool (by rw [hc1]; rfl)) ?_
      refine L.guardF (dj := 21) (c := true) rfl rfl rfl rfl rfl (by decide) ?_
      refine L.guardF (dj := 21) (c := true) rfl rfl rfl rfl rfl (by decide) ?_
      refine L.guardF (dj := 21) (c := true) rfl rfl rfl rfl rfl (by decide) ?_
      refine L.pickT rfl rfl rfl ?_
      refine L.move rfl rfl ?_
      refine L.guardF (dj := 26) (c := true) rfl rfl rfl rfl rfl (by decide) ?_
      refine L.guardF (dj := 26) (c := true) rfl rfl rfl rfl rfl (by decide) ?_
      refine L.guardF (dj := 26) (c := true) rfl rfl rfl rfl rfl (by decide) ?_
      refine L.pickT rfl rfl rfl ?_
      refine L.move rfl rfl ?_
      refine L.guardF (dj := 31) (c := true) rfl rfl rfl rfl rfl (by decide) ?_
      refine L.guardF (dj := 31) (c := true) rfl rfl rfl rfl rfl (by decide) ?_
      refine L.guardF (dj := 31) (c := true) rfl rfl rfl rfl rfl (by decide) ?_
      refine L.guardF (dj := 31) (c := true) rfl rfl rfl rfl rfl (by decide) ?_
      refine L.guardF (dj := 31) (c := true) rfl rfl rfl rfl rfl (by decide) ?_
      refine L.guardF (dj := 31) (c := true) rfl rfl rfl rfl rfl (by decide) ?_
      refine L.guardF (dj := 31) (c := true) rfl rfl rfl rfl rfl (by decide) ?_
      refine L.pickT rfl rfl rfl ?_
      refine L.nilQ ?_
      refine T.thenN ?_
      exact T.toJoin ⟨_, ⟨(fun h => by cases h), (fun h => by have := st_none hc1; rw [h.1] at this; cases this)⟩, rfl, rfl, rfl⟩ (.cons (t := 39) rfl <| SubK.nil _) (.cons (t := 0) rfl <| .cons (t := 3) rfl <| .cons (t := 5) rfl <| SubK.nil _) qD qD qF
    · skip
      refine T.regionQ (by kernel_rfl) (by kernel_rfl) ?_
      refine L.move rfl rfl ?_
      refine L.notB rfl rfl ?_
      refine L.move rfl rfl ?_
      refine L.known (t := 21) rfl (show _ = Value.bool false from congrArg Value.bool (by rw [hc1]; rfl)) ?_
      refine L.guardT (dj := 21) rfl rfl rfl ?_
      first | refine L.field0 rfl fo68_0 rfl ?_ | refine L.field rfl fo68_0 rfl ?_
      refine L.guardT (dj := 21) rfl rfl rfl ?_
      refine L.load rfl sc3 rfl qC ?_
      refine L.guardT (dj := 21) rfl rfl rfl ?_
      refine L.neI rfl rfl rfl ?_
      refine L.pickF rfl rfl rfl ?_
      refine L.move rfl rfl ?_
      refine L.known (t := 26) rfl (show _ = Value.bool true from congrArg Value.bool (decide_eq_true (by rw [hp]; exact hc2))) ?_
      refine L.guardF (dj := 26) (c := true) rfl rfl rfl rfl rfl (by decide) ?_
      refine L.guardF (dj := 26) (c := true) rfl rfl rfl rfl rfl (by decide) ?_
      refine L.guardF (dj := 26) (c := true) rfl rfl rfl rfl rfl (by decide) ?_
      refine L.pickT rfl rfl rfl ?_
      refine L.move rfl rfl ?_
      refine L.guardF (dj := 31) (c := true) rfl rfl rfl rfl rfl (by decide) ?_
      refine L.guardF (dj := 31) (c := true) rfl rfl rfl rfl rfl (by decide) ?_
      refine L.guardF (dj := 31) (c := true) rfl rfl rfl rfl rfl (by decide) ?_
      refine L.guardF (dj := 31) (c := true) rfl rfl rfl rfl rfl (by decide) ?_
      refine L.guardF (dj := 31) (c := true) rfl rfl rfl rfl rfl (by decide) ?_
      refine L.guardF (dj := 31) (c := true) rfl rfl rfl rfl rfl (by decide) ?_
      refine L.guardF (dj := 31) (c := true) rfl rfl rfl rfl rfl (by decide) ?_
      refine L.pickT rfl rfl rfl ?_
      refine L.nilQ ?_
      refine T.thenN ?_
      exact T.toJoin ⟨_, ⟨(fun h => by cases h), (fun h => absurd h.1 hc2)⟩, rfl, rfl, rfl⟩ (.cons (t := 39) rfl <| SubK.nil _) (.cons (t := 0) rfl <| .cons (t := 3) rfl <| .cons (t := 5) rfl <| SubK.nil _) qD qD qF
    · skip
      refine T.regionQ (by kernel_rfl) (by kernel_rfl) ?_
      refine L.move rfl rfl ?_
      refine L.notB rfl rfl ?_
      refine L.move rfl rfl ?_
      refine L.known (t := 21) rfl (show _ = Value.bool false from congrArg Value.bool (by rw [hc1]; rfl)) ?_
      refine L.guardT (dj := 21) rfl rfl rfl ?_
      first | refine L.field0 rfl fo68_0 rfl ?_ | refine L.field rfl fo68_0 rfl ?_
      refine L.guardT (dj := 21) rfl rfl rfl ?_
      refine L.load rfl sc3 rfl qC ?_
      refine L.guardT (dj := 21) rfl rfl rfl ?_
      refine L.neI rfl rfl rfl ?_
      refine L.pickF rfl rfl rfl ?_
      refine L.move rfl rfl ?_
      refine L.known (t := 26) rfl (show _ = Value.bool false from congrArg Value.bool (decide_eq_false (by rw [hp]; exact fun h => h hc2))) ?_
      refine L.guardT (dj := 26) rfl rfl rfl ?_
      first | refine L.field0 rfl fo38_0 rfl ?_ | refine L.field rfl fo38_0 rfl ?_
      refine L.guardT (dj := 26) rfl rfl rfl ?_
      refine L.load rfl sc3 rfl qC ?_
      refine L.guardT (dj := 26) rfl rfl rfl ?_
      refine L.neI rfl rfl rfl ?_
      refine L.pickF rfl rfl rfl ?_
      refine L.move rfl rfl ?_
      refine L.known (t := 31) rfl (show _ = Value.bool true from congrArg Value.bool (decide_eq_true hc3)) ?_
      refine L.guardF (dj := 31) (c := true) rfl rfl rfl rfl rfl (by decide) ?_
      refine L.guardF (dj := 31) (c := true) rfl rfl rfl rfl rfl (by decide) ?_
      refine L.guardF (dj := 31) (c := true) rfl rfl rfl rfl rfl (by decide) ?_
      refine L.guardF (dj := 31) (c := true) rfl rfl rfl rfl rfl (by decide) ?_
      refine L.guardF (dj := 31) (c := true) rfl rfl rfl rfl rfl (by decide) ?_
      refine L.guardF (dj := 31) (c := true) rfl rfl rfl rfl rfl (by decide) ?_
      refine L.guardF (dj := 31) (c := true) rfl rfl rfl rfl rfl (by decide) ?_
      refine L.pickT rfl rfl rfl ?_
      refine L.nilQ ?_
      refine T.thenN ?_
      exact T.toJoin ⟨_, ⟨(fun h => by cases h), (fun h => absurd h.2.1 hc3)⟩, rfl, rfl, rfl⟩ (.cons (t := 39) rfl <| SubK.nil _) (.cons (t := 0) rfl <| .cons (t := 3) rfl <| .cons (t := 5) rfl <| SubK.nil _) qD qD qF
    · skip
      refine T.regionQ (by kernel_rfl) (by kernel_rfl) ?_
      refine L.move rfl rfl ?_
      refine L.notB rfl rfl ?_
      refine L.move rfl rfl ?_
      refine L.known (t := 21) rfl (show _ = Value.bool false from congrArg Value.bool (by rw [hc1]; rfl)) ?_
      refine L.guardT (dj := 21) rfl rfl rfl ?_
      first | refine L.field0 rfl fo68_0 rfl ?_ | refine L.field rfl fo68_0 rfl ?_
      refine L.guardT (dj := 21) rfl rfl rfl ?_
      refine L.load rfl sc3 rfl qC ?_
      refine L.guardT (dj := 21) rfl rfl rfl ?_
      refine L.neI rfl rfl rfl ?_
      refine L.pickF rfl rfl rfl ?_
      refine L.move rfl rfl ?_
      refine L.known (t := 26) rfl (show _ = Value.bool false from congrArg Value.bool (decide_eq_false (by rw [hp]; exact fun h => h hc2))) ?_
      refine L.guardT (dj := 26) rfl rfl rfl ?_
      first | refine L.field0 rfl fo38_0 rfl ?_ | refine L.field rfl fo38_0 rfl ?_
      refine L.guardT (dj := 26) rfl rfl rfl ?_
      refine L.load rfl sc3 rfl qC ?_
      refine L.guardT (dj := 26) rfl rfl rfl ?_
      refine L.neI rfl rfl rfl ?_
      refine L.pickF rfl rfl rfl ?_
      refine L.move rfl rfl ?_
      refine L.known (t := 31) rfl (show _ = Value.bool false from congrArg Value.bool (decide_eq_false (fun h => h hc3))) ?_
      refine L.guardT (dj := 31) rfl rfl rfl ?_
      first | refine L.field0 rfl fo38_4 rfl ?_ | refine L.field rfl fo38_4 rfl ?_
      refine L.guardT (dj := 31) rfl rfl rfl ?_
      refine L.loadA rfl ag27 rfl qN ?_
      refine L.guardT (dj := 31) rfl rfl rfl ?_
      refine L.move rfl rfl ?_
      refine L.guardT (dj := 31) rfl rfl rfl ?_
      refine L.nilCheck rfl rfl ?_
      refine L.guardT (dj := 31) rfl rfl rfl ?_
      first | refine L.field0 rfl fo62_0 rfl ?_ | refine L.field rfl fo62_0 rfl ?_
      refine L.guardT (dj := 31) rfl rfl rfl ?_
      refine L.loadA rfl ag27 rfl qN ?_
      refine L.guardT (dj := 31) rfl rfl rfl ?_
      refine L.neqArrI (by kernel_rfl) rfl Try.underlying27 Try.underlying5 sc5 rfl rfl qL qL ?_
      refine L.pickF rfl rfl rfl ?_
      refine L.nilQ ?_
      refine T.thenN ?_
      exact T.toJoin ⟨_, ⟨fun h => ⟨hc2, hc3, by simpa using h⟩, fun h => by simpa using h.2.2⟩, rfl, rfl, rfl⟩ (.cons (t := 39) rfl <| SubK.nil _) (.cons (t := 0) rfl <| .cons (t := 3) rfl <| .cons (t := 5) rfl <| SubK.nil _) qD qD qF
  rintro _ _ _ ⟨w, hw, rfl, rfl, rfl⟩
  refine T.norm3 qA qA qA ?_
  refine T.thenN ?_
  refine T.cond rfl (fun h39 => ?_) (fun h39 => ?_)
  · try simp only [decide_eq_true_eq, decide_eq_false_iff_not, Bool.not_eq_true', Bool.not_eq_false', Bool.and_eq_true, Bool.or_eq_true] at h39
    have hno : ¬ Answ g lo kind fr id := fun e => by rw [hw.2 e] at h39; cases h39
    rw [if_neg hno, if_neg hno, decide_eq_false hno]
    refine T.seq ?_
    refine T.region ?_
    refine L.assign rfl rfl ?_
    refine L.nil ?_
    refine T.thenN ?_
    refine T.ret ?_
    refine T.thenR ?_
    exact T.ret1 rfl rfl ⟨rfl, rfl, rfl⟩ qD qF
  · try simp only [decide_eq_true_eq, decide_eq_false_iff_not, Bool.not_eq_true', Bool.not_eq_false', Bool.and_eq_true, Bool.or_eq_true] at h39
    have hyes := hw.1 h39
    rw [if_pos hyes, if_pos hyes, decide_eq_true hyes]
    rw [show inO lo fr = p.2 from by rw [hp]; rfl]
    refine T.skip ?_
    refine T.thenN ?_
    refine T.seq ?_
    refine T.regionA (clsL [1, 1, 1, 1, 1, 1, 1, 1, 1, 2]) (by kernel_rfl) ?_
    refine A.takeP (i := 0) rfl rfl rfl rfl (by kernel_rfl) (by kernel_rfl) (by kernel_rfl) rfl qD ?_
    refine L.move rfl rfl ?_
    refine A.took ?_
    refine A.nilCheckP (i := 1) rfl rfl (by kernel_rfl) (by kernel_rfl) (by kernel_rfl) rfl qD rfl ?_
    refine A.takeP (i := 2) rfl rfl rfl rfl (by kernel_rfl) (by kernel_rfl) (by kernel_rfl) rfl qD ?_
    first | refine L.field0 rfl fo62_2 rfl ?_ | refine L.field rfl fo62_2 rfl ?_
    refine A.took ?_
    refine A.takeP (i := 3) rfl rfl rfl rfl (by kernel_rfl) (by kernel_rfl) (by kernel_rfl) rfl qD ?_
    refine L.load rfl sc60 rfl qC ?_
    refine A.took ?_
    refine A.takeP (i := 4) rfl rfl rfl rfl (by kernel_rfl) (by kernel_rfl) (by kernel_rfl) rfl qD ?_
    first | refine L.field0 rfl fo38_1 rfl ?_ | refine L.field rfl fo38_1 rfl ?_
    refine A.took ?_
    refine A.takeP (i := 5) rfl rfl rfl rfl (by kernel_rfl) (by kernel_rfl) (by kernel_rfl) rfl qD ?_
    refine L.load rfl sc3 rfl qC ?_
    refine A.took ?_
    refine A.takeP (i := 6) rfl rfl rfl rfl (by kernel_rfl) (by kernel_rfl) (by kernel_rfl) rfl qD ?_
    first | refine L.field0 rfl fo68_1 rfl ?_ | refine L.field rfl fo68_1 rfl ?_
    refine A.took ?_
    refine A.takeP (i := 7) rfl rfl rfl rfl (by kernel_rfl) (by kernel_rfl) (by kernel_rfl) rfl qD ?_
    refine L.load rfl sc3 rfl qC ?_
    refine A.took ?_
    refine A.takeP (i := 8) rfl rfl rfl rfl (by kernel_rfl) (by kernel_rfl) (by kernel_rfl) rfl qD ?_
    refine L.build rfl bu68 (BP.one rfl rfl rfl <| BP.one rfl rfl rfl <| BP.doneE (out := []) rfl) ?_
    refine A.took ?_
    refine A.branch (is := [9]) (by kernel_rfl) (by decide) (Each.cons rfl ?_ <| Each.nil) 
    refine L.mapUpdate (kenc := iK) (venc := oneV) (l := lo) (k := fr) (v := (2, p.2)) Try.underlying60 kt3 rfl rfl rfl rfl qP ?_
    refine A.backT rfl qD ?_
    refine A.done (by kernel_rfl) ?_
    refine T.thenN ?_
    refine T.seq ?_
    refine T.region ?_
    refine L.move rfl rfl ?_
    first | refine L.field0 rfl fo38_7 rfl ?_ | refine L.field rfl fo38_7 rfl ?_
    refine L.load rfl sc22 rfl qC ?_
    refine L.call rfl (evs.cons rfl <| evs.cons rfl <| evs.nil) qD qS (meet_spec (lo := put lo fr (2, p.2)) (ns := ps) hg hpl) ?_
    rintro _ _ _ ⟨rfl, rfl, rfl⟩
    refine L.norm qA qA ?_
    refine L.nil ?_
    refine T.thenN ?_
    refine T.seq ?_
    refine T.seq ?_
    refine T.region ?_
    first | refine L.field0 rfl fo38_8 rfl ?_ | refine L.field rfl fo38_8 rfl ?_
    refine L.load rfl sc22 rfl qC ?_
    refine L.lenSl rfl Try.underlying22 rfl ?_
    refine L.move rfl rfl ?_
    refine L.nil ?_
    refine T.thenN ?_
    refine T.block ?_
    refine T.loop (fun K' D' M' μ => ∃ (i : Nat), (i ≤ hl) ∧ K' = [(56, .int .i64 i)] ∧ D' = [] ∧ M' = [mp m1 iK oneV (meetF o (put lo fr (2, p.2)) ps), mp m2 iK iK (hearF o lh (hs.take i))] ∧ μ = hl - i) (.cons (t := 0) rfl <| .cons (t := 54) rfl <| .cons (t := 55) rfl <| SubK.nil _) (⟨0, Nat.zero_le _, rfl, rfl, rfl, rfl⟩) (.cons (t := 56) rfl <| SubK.nil _) qD qS ?_
    rintro K1 D1 M1 m1 ⟨i, hi, rfl, rfl, rfl, rfl⟩
    refine T.norm3 qA qA qA ?_
    refine T.seq ?_
    refine T.region ?_
    refine L.ltI rfl rfl rfl ?_
    refine L.nil ?_
    refine T.thenN ?_
    refine T.seq ?_
    refine T.cond rfl (fun h57 => ?_) (fun h57 => ?_)
    · try simp only [decide_eq_true_eq, decide_eq_false_iff_not, Bool.not_eq_true', Bool.not_eq_false', Bool.and_eq_true, Bool.or_eq_true] at h57
      refine T.skip ?_
      refine T.thenN ?_
      refine T.seq ?_
      refine T.block ?_
      refine T.seq ?_
      have hn0 : hs[i]? = some (gd hs i) := gd_get (by omega)
      obtain ⟨n, hnn⟩ : ∃ n, n = gd hs i := ⟨_, rfl⟩
      rw [← hnn] at hn0
      obtain ⟨lm, hlm⟩ : ∃ lm, lm = hearF o lh (hs.take i) := ⟨_, rfl⟩
      rw [← hlm]
      refine T.region ?_
      refine L.idx (i := i) rfl Try.underlying22 sz3 rfl rfl qM (by first | rfl | omega | (simp; done)) qG (fun b58 o58 => ?_)
      refine L.load rfl sc3 rfl qC ?_
      refine L.assign rfl rfl ?_
      refine L.nil ?_
      refine T.thenN ?_
      refine T.seq ?_
      refine T.region ?_
      refine L.move rfl rfl ?_
      refine L.move rfl rfl ?_
      refine L.nilCheck rfl rfl ?_
      first | refine L.field0 rfl fo62_1 rfl ?_ | refine L.field rfl fo62_1 rfl ?_
      refine L.load rfl sc3 rfl qC ?_
      refine L.neI rfl rfl rfl ?_
      refine L.nil ?_
      refine T.thenN ?_
      refine T.cond rfl (fun h65 => ?_) (fun h65 => ?_)
      · try simp only [decide_eq_true_eq, decide_eq_false_iff_not, Bool.not_eq_true', Bool.not_eq_false', Bool.and_eq_true, Bool.or_eq_true] at h65
        refine T.region ?_
        refine L.move rfl rfl ?_
        refine L.nilCheck rfl rfl ?_
        first | refine L.field0 rfl fo62_3 rfl ?_ | refine L.field rfl fo62_3 rfl ?_
        refine L.load rfl sc28 rfl qC ?_
        refine L.move rfl rfl ?_
        refine L.mapUpdate (kenc := iK) (venc := iK) (l := lm) (k := n) (v := 1) Try.underlying28 kt3 rfl rfl rfl rfl qP ?_
        refine L.nil ?_
        refine T.blkN ?_
        refine T.thenN ?_
        refine T.region ?_
        refine L.addN rfl rfl rfl (by omega) ?_
        refine L.move rfl rfl ?_
        refine L.nil ?_
        refine T.thenN ?_
        refine T.eqv qP (show mp m2 iK iK (put lm n 1) = mp m2 iK iK (hearF o lh (hs.take (i + 1))) from by unfold hearF at hlm ⊢; rw [fold_snoc hn0, ← hlm, hear1, if_pos h65]) ?_
        exact T.back ⟨i + 1, (by omega), rfl, rfl, rfl, rfl⟩ qI (.cons (t := 56) rfl <| SubK.nil _) (.cons (t := 0) rfl <| .cons (t := 54) rfl <| .cons (t := 55) rfl <| SubK.nil _) qD qD qF
      · try simp only [decide_eq_true_eq, decide_eq_false_iff_not, Bool.not_eq_true', Bool.not_eq_false', Bool.and_eq_true, Bool.or_eq_true] at h65
        refine T.skip ?_
        refine T.blkN ?_
        refine T.thenN ?_
        refine T.region ?_
        refine L.addN rfl rfl rfl (by omega) ?_
        refine L.move rfl rfl ?_
        refine L.nil ?_
        refine T.thenN ?_
        refine T.eqv qP (show mp m2 iK iK lm = mp m2 iK iK (hearF o lh (hs.take (i + 1))) from by unfold hearF at hlm ⊢; rw [fold_snoc hn0, ← hlm, hear1, if_neg (fun e => h65 e)]) ?_
        exact T.back ⟨i + 1, (by omega), rfl, rfl, rfl, rfl⟩ qI (.cons (t := 56) rfl <| SubK.nil _) (.cons (t := 0) rfl <| .cons (t := 54) rfl <| .cons (t := 55) rfl <| SubK.nil _) qD qD qF
    · try simp only [decide_eq_true_eq, decide_eq_false_iff_not, Bool.not_eq_true', Bool.not_eq_false', Bool.and_eq_true, Bool.or_eq_true] at h57
      obtain rfl : i = hl := by omega
      rw [List.take_of_length_le (by omega)]
      refine T.exit ?_
      refine T.thenX ?_
      refine T.thenX ?_
      refine T.blkX ?_
      refine T.thenN ?_
      refine T.seq ?_
      refine T.region ?_
      refine L.assign rfl rfl ?_
      refine L.nil ?_
      refine T.thenN ?_
      refine T.ret ?_
      exact T.ret1 rfl rfl ⟨rfl, rfl, rfl⟩ qD qF
end Cv
