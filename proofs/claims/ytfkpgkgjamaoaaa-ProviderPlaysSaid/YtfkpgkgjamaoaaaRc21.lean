/-
  The walks: the reference of providers.
-/
import Derived.Test.YtfkpgkgjamaoaaaRb21
import Derived.Test.YtfkpgkgjamaoaaaCvLd
import Derived.Test.YtfkpgkgjamaoaaaProg
import Derived.KernelRfl
set_option linter.unusedVariables false
set_option linter.unusedSimpArgs false
set_option linter.unusedSectionVars false
set_option maxRecDepth 10000
namespace Cv
open Go Go.Proofs
theorem ag52 : Ag Try.prog 52 3 := fun w => ⟨by kernel_rfl, by kernel_rfl⟩
theorem sz52 : Sz Try.prog 52 3 := fun w => by kernel_rfl
theorem zv52 : ∀ w, (zeroValue 52).run Try.prog w = .ok (Value.agg #[S [], Value.int .i64 0, Value.int .i64 0]) w := fun w => by kernel_rfl
theorem ze52 : Ze Try.prog 52 [S [], Value.int .i64 0, Value.int .i64 0] := ⟨_, rfl, zv52⟩
theorem fo52_0 : Fo Try.prog 52 0 0 := fun a w => by kernel_rfl
theorem sc9 : Sc Try.prog 9 := fun w => ⟨by kernel_rfl, by kernel_rfl⟩
theorem fo52_1 : Fo Try.prog 52 1 1 := fun a w => by kernel_rfl
theorem bs40 : Bs Try.prog 40 52 3 [S [], Value.int .i64 0, Value.int .i64 0] := bs_of Try.underlying40 (fun w => by kernel_rfl) zv52 rfl rfl (by decide)
theorem el52 : El Try.prog 52 3 32 := ⟨_, _, rfl, rfl, by kernel_rfl, by kernel_rfl, by kernel_rfl⟩
theorem fo52_2 : Fo Try.prog 52 2 2 := fun a w => by kernel_rfl
theorem bu52 : Bu Try.prog 52 [S [], Value.int .i64 0, Value.int .i64 0] (fun (i : Nat) => ([(0, 1), (1, 1), (2, 1)] : List (Nat × Nat))[i]?) := bu_of Try.underlying52 zv52 rfl (fun w => by kernel_rfl)
set_option maxHeartbeats 400000 in
theorem rnames_spec {a : Option Addr} {n c : Nat} {l : List PO} (hn : n ≤ 1000000) : Spec Try.prog 28 [.slice a n c] [rsl 3 a n c (l.map poR)] [] (fun v D' M' => v = .int .i64 (nmsF l : Nat) ∧ D' = [] ∧ M' = []) := by
  refine Spec.intro (n := 38) Try.func28 rfl rfl (by decide) (Nat.le_of_ble_eq_true rfl) rfl (fun _ => qA) (fun _ => qA) ?_
  intro σ D M
  refine T.rslLen2 (rows := l.map poR) qM (fun hpl hpc => ?_)
  rw [List.length_map] at hpl
  
  refine T.seq ?_
  refine T.region ?_
  refine L.assign rfl rfl ?_
  refine L.nil ?_
  refine T.thenN ?_
  refine T.seq ?_
  refine T.region ?_
  refine L.assign rfl rfl ?_
  refine L.nil ?_
  refine T.thenN ?_
  refine T.seq ?_
  refine T.seq ?_
  refine T.region ?_
  refine L.move rfl rfl ?_
  refine L.lenSl rfl Try.underlying40 rfl ?_
  refine L.move rfl rfl ?_
  refine L.nil ?_
  refine T.thenN ?_
  refine T.block ?_
  refine T.loop (fun K' D' M' μ => ∃ (i : Nat), (i ≤ n) ∧ K' = [(11, .int .i64 (i : Int)), (3, .int .i64 ((ddN ((idsP l).take i)).length : Nat))] ∧ D' = [] ∧ M' = [] ∧ μ = n - i) (.cons (t := 0) rfl <| .cons (t := 9) rfl <| .cons (t := 10) rfl <| SubK.nil _) (⟨0, Nat.zero_le _, rfl, rfl, rfl, rfl⟩) (.cons (t := 11) rfl <| .cons (t := 3) rfl <| SubK.nil _) qD qS ?_
  rintro K1 D1 M1 m1 ⟨i, hi, rfl, rfl, rfl, rfl⟩
  refine T.norm3 qA qA qA ?_
  refine T.seq ?_
  refine T.region ?_
  refine L.ltI rfl rfl rfl ?_
  refine L.nil ?_
  refine T.thenN ?_
  refine T.seq ?_
  refine T.cond rfl (fun h12 => ?_) (fun h12 => ?_)
  · try simp only [decide_eq_true_eq, decide_eq_false_iff_not, Bool.not_eq_true', Bool.not_eq_false', Bool.and_eq_true, Bool.or_eq_true] at h12
    refine T.skip ?_
    refine T.thenN ?_
    refine T.seq ?_
    refine T.block ?_
    refine T.seq ?_
    have hgi : l[i]? = some (gd l i) := gd_get (by omega)
    obtain ⟨x, hx_⟩ : ∃ z, z = gd l i := ⟨_, rfl⟩
    rw [← hx_] at hgi
    clear hx_
    have hgr : (l.map poR)[i]? = some (poR x) := map_get hgi
    have hgm : (idsP l)[i]? = some x.1 := by unfold idsP; rw [List.getElem?_map, hgi]; rfl
    have hds := ddN_s hgm
    have hle := nmsF_le (l := l) i
    refine T.region ?_
    refine L.move rfl rfl ?_
    refine L.idx (i := i) rfl Try.underlying40 sz52 rfl rfl qM (by first | rfl | omega | (simp; done)) qG (fun b14 o14 => ?_)
    refine L.loadA rfl ag52 rfl (CellsN.ofD qM (poR_len _)) ?_
    refine L.alloc rfl ze52 (fun b5 => ?_)
    refine L.assign rfl rfl ?_
    refine L.storeA ag52 rfl rfl qL qO qU qW ?_
    refine L.nil ?_
    refine T.freeze (A := cl b5 52 (poR x)) qP ?_
    refine T.thenN ?_
    refine T.seq ?_
    refine T.region ?_
    refine L.assign rfl rfl ?_
    refine L.nil ?_
    refine T.thenN ?_
    refine T.seq ?_
    refine T.seq ?_
    refine T.region ?_
    refine L.move rfl rfl ?_
    refine L.move rfl rfl ?_
    refine L.sliceR rfl Try.underlying40 sz52 rfl Bd.no (Bd.at (x := i) rfl (by first | rfl | omega | (simp; done))) qM qI qI qI (fun a18 => ?_)
    refine L.derive (φ := rsl 3 a18 (i - 0) (c - 0) (((l.map poR).drop 0).take (i - 0))) (ψ := rsl 3 a18 i c ((l.map poR).take i)) qM (fun z H => by simpa using H) ?_
    refine L.known (t := 18) (u := .slice a18 i c) rfl (by simp) ?_
    refine L.lenSl rfl Try.underlying40 rfl ?_
    refine L.move rfl rfl ?_
    refine L.nil ?_
    refine T.thenN ?_
    refine T.block ?_
    refine T.known (t := 6) (u := .bool (decide (x.1 ∉ (idsP l).take 0))) rfl (by simp) ?_
    refine T.loop (fun K' D' M' μ => ∃ (j : Nat), (j ≤ i) ∧ K' = [(20, .int .i64 (j : Int)), (6, .bool (decide (x.1 ∉ (idsP l).take j)))] ∧ D' = [] ∧ M' = [] ∧ μ = i - j) (.cons (t := 0) rfl <| .cons (t := 3) rfl <| .cons (t := 5) rfl <| .cons (t := 9) rfl <| .cons (t := 10) rfl <| .cons (t := 11) rfl <| .cons (t := 18) rfl <| .cons (t := 19) rfl <| SubK.nil _) (⟨0, Nat.zero_le _, rfl, rfl, rfl, rfl⟩) (.cons (t := 20) rfl <| .cons (t := 6) rfl <| SubK.nil _) qD qS ?_
    rintro K1 D1 M1 m1 ⟨j, hj, rfl, rfl, rfl, rfl⟩
    refine T.norm3 qA qA qA ?_
    refine T.seq ?_
    refine T.region ?_
    refine L.ltI rfl rfl rfl ?_
    refine L.nil ?_
    refine T.thenN ?_
    refine T.seq ?_
    refine T.cond rfl (fun h21 => ?_) (fun h21 => ?_)
    · try simp only [decide_eq_true_eq, decide_eq_false_iff_not, Bool.not_eq_true', Bool.not_eq_false', Bool.and_eq_true, Bool.or_eq_true] at h21
      refine T.skip ?_
      refine T.thenN ?_
      refine T.seq ?_
      refine T.block ?_
      refine T.seq ?_
      have hgj : l[j]? = some (gd l j) := gd_get (by omega)
      obtain ⟨w, hw_⟩ : ∃ z, z = gd l j := ⟨_, rfl⟩
      rw [← hw_] at hgj
      clear hw_
      have hgk : ((l.map poR).take i)[j]? = some (poR w) := by rw [List.getElem?_take_of_lt (by omega)]; exact map_get hgj
      have hgn : (idsP l)[j]? = some w.1 := by unfold idsP; rw [List.getElem?_map, hgj]; rfl
      refine T.region ?_
      refine L.idx (i := j) rfl Try.underlying40 sz52 rfl rfl qM (by first | rfl | omega | (simp; done)) qG (fun b22 o22 => ?_)
      refine L.loadA rfl ag52 rfl (CellsN.ofD qM (poR_len _)) ?_
      refine L.alloc rfl ze52 (fun b8 => ?_)
      refine L.storeA ag52 rfl rfl qL qO qU qW ?_
      refine L.nil ?_
      refine T.freeze (A := cl b8 52 (poR w)) qP ?_
      refine T.thenN ?_
      refine T.cutC (fun K' D' M' => ∃ (w2 : Bool), (w2 = decide (x.1 ∉ (idsP l).take (j + 1))) ∧ K' = [(6, .bool w2)] ∧ D' = [] ∧ M' = []) (M0 := []) (.cons (t := 0) rfl <| .cons (t := 3) rfl <| .cons (t := 5) rfl <| .cons (t := 9) rfl <| .cons (t := 10) rfl <| .cons (t := 11) rfl <| .cons (t := 18) rfl <| .cons (t := 19) rfl <| .cons (t := 20) rfl <| SubK.nil _) qS ?_ ?_
      · skip
        refine T.region ?_
        refine L.move rfl rfl ?_
        refine L.move rfl rfl ?_
        refine L.part (t := 25) rfl (fun h1 => ?_) (fun h1 => ?_)
        · try simp only [decide_eq_true_eq, decide_eq_false_iff_not, Bool.not_eq_true', Bool.not_eq_false', Bool.and_eq_true, Bool.or_eq_true] at h1
          refine L.guardT (dj := 25) rfl rfl rfl ?_
          first | refine L.field0 rfl fo52_0 rfl ?_ | refine L.field rfl fo52_0 rfl ?_
          refine L.guardT (dj := 25) rfl rfl rfl ?_
          refine L.load rfl sc9 rfl qC ?_
          refine L.guardT (dj := 25) rfl rfl rfl ?_
          first | refine L.field0 rfl fo52_0 rfl ?_ | refine L.field rfl fo52_0 rfl ?_
          refine L.guardT (dj := 25) rfl rfl rfl ?_
          refine L.load rfl sc9 rfl qC ?_
          refine L.guardT (dj := 25) rfl rfl rfl ?_
          refine L.neS rfl rfl rfl ?_
          refine L.pickT rfl rfl rfl ?_
          refine L.assign rfl rfl ?_
          refine L.nil ?_
          refine T.thenN ?_
          exact T.toJoin ⟨_, (nm_T hgn h1), rfl, rfl, rfl⟩ (.cons (t := 6) rfl <| SubK.nil _) (.cons (t := 0) rfl <| .cons (t := 3) rfl <| .cons (t := 5) rfl <| .cons (t := 9) rfl <| .cons (t := 10) rfl <| .cons (t := 11) rfl <| .cons (t := 18) rfl <| .cons (t := 19) rfl <| .cons (t := 20) rfl <| SubK.nil _) qD qD qF
        · try simp only [decide_eq_true_eq, decide_eq_false_iff_not, Bool.not_eq_true', Bool.not_eq_false', Bool.and_eq_true, Bool.or_eq_true] at h1
          refine L.guardF (dj := 25) (c := false) rfl rfl rfl rfl rfl (by decide) ?_
          refine L.guardF (dj := 25) (c := false) rfl rfl rfl rfl rfl (by decide) ?_
          refine L.guardF (dj := 25) (c := false) rfl rfl rfl rfl rfl (by decide) ?_
          refine L.guardF (dj := 25) (c := false) rfl rfl rfl rfl rfl (by decide) ?_
          refine L.guardF (dj := 25) (c := false) rfl rfl rfl rfl rfl (by decide) ?_
          refine L.pickF rfl rfl rfl ?_
          refine L.assign rfl rfl ?_
          refine L.nil ?_
          refine T.thenN ?_
          exact T.toJoin ⟨_, (nm_F hgn h1), rfl, rfl, rfl⟩ (.cons (t := 6) rfl <| SubK.nil _) (.cons (t := 0) rfl <| .cons (t := 3) rfl <| .cons (t := 5) rfl <| .cons (t := 9) rfl <| .cons (t := 10) rfl <| .cons (t := 11) rfl <| .cons (t := 18) rfl <| .cons (t := 19) rfl <| .cons (t := 20) rfl <| SubK.nil _) qD qD qF
      rintro _ _ _ ⟨w2, hw2, rfl, rfl, rfl⟩
      refine T.norm3 qA qA qA ?_
      refine T.blkN ?_
      refine T.thenN ?_
      refine T.region ?_
      refine L.addN rfl rfl rfl (by omega) ?_
      refine L.move rfl rfl ?_
      refine L.nil ?_
      refine T.thenN ?_
      subst hw2
      exact T.back ⟨j + 1, (by omega), rfl, rfl, rfl, rfl⟩ qI (.cons (t := 20) rfl <| .cons (t := 6) rfl <| SubK.nil _) (.cons (t := 0) rfl <| .cons (t := 3) rfl <| .cons (t := 5) rfl <| .cons (t := 9) rfl <| .cons (t := 10) rfl <| .cons (t := 11) rfl <| .cons (t := 18) rfl <| .cons (t := 19) rfl <| SubK.nil _) qD qD qF
    · try simp only [decide_eq_true_eq, decide_eq_false_iff_not, Bool.not_eq_true', Bool.not_eq_false', Bool.and_eq_true, Bool.or_eq_true] at h21
      obtain rfl : i = j := by omega
      refine T.exit ?_
      refine T.thenX ?_
      refine T.thenX ?_
      refine T.blkX ?_
      refine T.thenN ?_
      refine T.seq ?_
      refine T.region ?_
      refine L.move rfl rfl ?_
      refine L.nil ?_
      refine T.thenN ?_
      refine T.cutC (fun K' D' M' => K' = [(3, .int .i64 ((ddN ((idsP l).take (i + 1))).length : Nat))] ∧ D' = [] ∧ M' = []) (M0 := []) (.cons (t := 0) rfl <| .cons (t := 9) rfl <| .cons (t := 10) rfl <| .cons (t := 11) rfl <| SubK.nil _) qS ?_ ?_
      · skip
        refine T.cond rfl (fun h33 => ?_) (fun h33 => ?_)
        · try simp only [decide_eq_true_eq, decide_eq_false_iff_not, Bool.not_eq_true', Bool.not_eq_false', Bool.and_eq_true, Bool.or_eq_true] at h33
          have h33b : x.1 ∉ ddN ((idsP l).take i) := fun q => h33 ((ddN_mem _ _).1 q)
          rw [if_neg h33b] at hds
          refine T.region ?_
          refine L.move rfl rfl ?_
          refine L.addN rfl rfl rfl (by omega) ?_
          refine L.known (t := 35) (u := .int .i64 ((ddN ((idsP l).take (i + 1))).length : Nat)) rfl (congrArg (Value.int .i64) (by rw [hds, List.length_append]; rfl)) ?_
          refine L.assign rfl rfl ?_
          refine L.nil ?_
          refine T.thenN ?_
          exact T.toJoin ⟨rfl, rfl, rfl⟩ (.cons (t := 3) rfl <| SubK.nil _) (.cons (t := 0) rfl <| .cons (t := 9) rfl <| .cons (t := 10) rfl <| .cons (t := 11) rfl <| SubK.nil _) qD qD qF
        · try simp only [decide_eq_true_eq, decide_eq_false_iff_not, Bool.not_eq_true', Bool.not_eq_false', Bool.and_eq_true, Bool.or_eq_true] at h33
          have h33b : x.1 ∈ ddN ((idsP l).take i) := (ddN_mem _ _).2 (by simpa using h33)
          rw [if_pos h33b] at hds
          refine T.known (t := 3) (u := .int .i64 ((ddN ((idsP l).take (i + 1))).length : Nat)) rfl (by rw [hds]) ?_
          refine T.skip ?_
          refine T.thenN ?_
          exact T.toJoin ⟨rfl, rfl, rfl⟩ (.cons (t := 3) rfl <| SubK.nil _) (.cons (t := 0) rfl <| .cons (t := 9) rfl <| .cons (t := 10) rfl <| .cons (t := 11) rfl <| SubK.nil _) qD qD qF
      rintro _ _ _ ⟨rfl, rfl, rfl⟩
      refine T.norm3 qA qA qA ?_
      refine T.blkN ?_
      refine T.thenN ?_
      refine T.region ?_
      refine L.addN rfl rfl rfl (by omega) ?_
      refine L.move rfl rfl ?_
      refine L.nil ?_
      refine T.thenN ?_
      exact T.back ⟨i + 1, (by omega), rfl, rfl, rfl, rfl⟩ qI (.cons (t := 11) rfl <| .cons (t := 3) rfl <| SubK.nil _) (.cons (t := 0) rfl <| .cons (t := 9) rfl <| .cons (t := 10) rfl <| SubK.nil _) qD qD qF
  · try simp only [decide_eq_true_eq, decide_eq_false_iff_not, Bool.not_eq_true', Bool.not_eq_false', Bool.and_eq_true, Bool.or_eq_true] at h12
    obtain rfl : n = i := by omega
    have hfin : (idsP l).take n = idsP l := List.take_of_length_le (by unfold idsP; rw [List.length_map]; omega)
    refine T.exit ?_
    refine T.thenX ?_
    refine T.thenX ?_
    refine T.blkX ?_
    refine T.thenN ?_
    refine T.seq ?_
    refine T.region ?_
    refine L.move rfl rfl ?_
    refine L.assign rfl rfl ?_
    refine L.nil ?_
    refine T.thenN ?_
    refine T.ret ?_
    exact T.ret1 rfl rfl ⟨by rw [hfin]; rfl, rfl, rfl⟩ qD qF
set_option maxHeartbeats 400000 in
theorem rcount_spec {a : Option Addr} {n c : Nat} {l : List PO} {k : ID32} (hn : n ≤ 1000000) : Spec Try.prog 27 [.slice a n c, S k.1] [rsl 3 a n c (l.map poR)] [] (fun v D' M' => v = .int .i64 (cntF l k : Nat) ∧ D' = [] ∧ M' = []) := by
  refine Spec.intro (n := 22) Try.func27 rfl rfl (by decide) (Nat.le_of_ble_eq_true rfl) rfl (fun _ => qA) (fun _ => qA) ?_
  intro σ D M
  refine T.rslLen2 (rows := l.map poR) qM (fun hpl hpc => ?_)
  rw [List.length_map] at hpl
  
  refine T.seq ?_
  refine T.region ?_
  refine L.assign rfl rfl ?_
  refine L.nil ?_
  refine T.thenN ?_
  refine T.seq ?_
  refine T.region ?_
  refine L.assign rfl rfl ?_
  refine L.nil ?_
  refine T.thenN ?_
  refine T.seq ?_
  refine T.seq ?_
  refine T.region ?_
  refine L.move rfl rfl ?_
  refine L.lenSl rfl Try.underlying40 rfl ?_
  refine L.move rfl rfl ?_
  refine L.nil ?_
  refine T.thenN ?_
  refine T.block ?_
  refine T.loop (fun K' D' M' μ => ∃ (i : Nat), (i ≤ n) ∧ K' = [(10, .int .i64 (i : Int)), (5, .int .i64 (cntF (l.take i) k : Nat))] ∧ D' = [] ∧ M' = [] ∧ μ = n - i) (.cons (t := 1) rfl <| .cons (t := 8) rfl <| .cons (t := 9) rfl <| SubK.nil _) (⟨0, Nat.zero_le _, rfl, rfl, rfl, rfl⟩) (.cons (t := 10) rfl <| .cons (t := 5) rfl <| SubK.nil _) qD qS ?_
  rintro K1 D1 M1 m1 ⟨i, hi, rfl, rfl, rfl, rfl⟩
  refine T.norm3 qA qA qA ?_
  refine T.seq ?_
  refine T.region ?_
  refine L.ltI rfl rfl rfl ?_
  refine L.nil ?_
  refine T.thenN ?_
  refine T.seq ?_
  refine T.cond rfl (fun h11 => ?_) (fun h11 => ?_)
  · try simp only [decide_eq_true_eq, decide_eq_false_iff_not, Bool.not_eq_true', Bool.not_eq_false', Bool.and_eq_true, Bool.or_eq_true] at h11
    refine T.skip ?_
    refine T.thenN ?_
    refine T.seq ?_
    refine T.block ?_
    refine T.seq ?_
    have hgi : l[i]? = some (gd l i) := gd_get (by omega)
    obtain ⟨x, hx_⟩ : ∃ z, z = gd l i := ⟨_, rfl⟩
    rw [← hx_] at hgi
    clear hx_
    have hgr : (l.map poR)[i]? = some (poR x) := map_get hgi
    have hcs := cntF_s (k := k) hgi
    have hle := cntF_le (l := l.take i) (k := k)
    have htl : (l.take i).length ≤ i := by rw [List.length_take]; omega
    refine T.region ?_
    refine L.idx (i := i) rfl Try.underlying40 sz52 rfl rfl qM (by first | rfl | omega | (simp; done)) qG (fun b12 o12 => ?_)
    refine L.loadA rfl ag52 rfl (CellsN.ofD qM (poR_len _)) ?_
    refine L.alloc rfl ze52 (fun b7 => ?_)
    refine L.storeA ag52 rfl rfl qL qO qU qW ?_
    refine L.nil ?_
    refine T.freeze (A := cl b7 52 (poR x)) qP ?_
    refine T.thenN ?_
    refine T.seq ?_
    refine T.region ?_
    first | refine L.field0 rfl fo52_0 rfl ?_ | refine L.field rfl fo52_0 rfl ?_
    refine L.load rfl sc9 rfl qC ?_
    refine L.move rfl rfl ?_
    refine L.eqS rfl rfl rfl ?_
    refine L.nil ?_
    refine T.thenN ?_
    refine T.cutC (fun K' D' M' => K' = [(5, .int .i64 (cntF (l.take (i + 1)) k : Nat))] ∧ D' = [] ∧ M' = []) (M0 := []) (.cons (t := 1) rfl <| .cons (t := 8) rfl <| .cons (t := 9) rfl <| .cons (t := 10) rfl <| SubK.nil _) qS ?_ ?_
    · skip
      refine T.cond rfl (fun h17 => ?_) (fun h17 => ?_)
      · try simp only [decide_eq_true_eq, decide_eq_false_iff_not, Bool.not_eq_true', Bool.not_eq_false', Bool.and_eq_true, Bool.or_eq_true] at h17
        refine T.region ?_
        refine L.move rfl rfl ?_
        refine L.addN rfl rfl rfl (by omega) ?_
        refine L.known (t := 19) (u := .int .i64 (cntF (l.take (i + 1)) k : Nat)) rfl (congrArg (Value.int .i64) (by rw [hcs, if_pos (Subtype.ext (by simpa using h17))]; omega)) ?_
        refine L.assign rfl rfl ?_
        refine L.nil ?_
        refine T.thenN ?_
        exact T.toJoin ⟨rfl, rfl, rfl⟩ (.cons (t := 5) rfl <| SubK.nil _) (.cons (t := 1) rfl <| .cons (t := 8) rfl <| .cons (t := 9) rfl <| .cons (t := 10) rfl <| SubK.nil _) qD qD qF
      · try simp only [decide_eq_true_eq, decide_eq_false_iff_not, Bool.not_eq_true', Bool.not_eq_false', Bool.and_eq_true, Bool.or_eq_true] at h17
        refine T.known (t := 5) (u := .int .i64 (cntF (l.take (i + 1)) k : Nat)) rfl (by rw [hcs, if_neg (fun q => h17 (congrArg (·.1) q)), Nat.add_zero]) ?_
        refine T.skip ?_
        refine T.thenN ?_
        exact T.toJoin ⟨rfl, rfl, rfl⟩ (.cons (t := 5) rfl <| SubK.nil _) (.cons (t := 1) rfl <| .cons (t := 8) rfl <| .cons (t := 9) rfl <| .cons (t := 10) rfl <| SubK.nil _) qD qD qF
    rintro _ _ _ ⟨rfl, rfl, rfl⟩
    refine T.norm3 qA qA qA ?_
    refine T.blkN ?_
    refine T.thenN ?_
    refine T.region ?_
    refine L.addN rfl rfl rfl (by omega) ?_
    refine L.move rfl rfl ?_
    refine L.nil ?_
    refine T.thenN ?_
    exact T.back ⟨i + 1, (by omega), rfl, rfl, rfl, rfl⟩ qI (.cons (t := 10) rfl <| .cons (t := 5) rfl <| SubK.nil _) (.cons (t := 1) rfl <| .cons (t := 8) rfl <| .cons (t := 9) rfl <| SubK.nil _) qD qD qF
  · try simp only [decide_eq_true_eq, decide_eq_false_iff_not, Bool.not_eq_true', Bool.not_eq_false', Bool.and_eq_true, Bool.or_eq_true] at h11
    obtain rfl : n = i := by omega
    rw [List.take_of_length_le (by omega)]
    refine T.exit ?_
    refine T.thenX ?_
    refine T.thenX ?_
    refine T.blkX ?_
    refine T.thenN ?_
    refine T.seq ?_
    refine T.region ?_
    refine L.move rfl rfl ?_
    refine L.assign rfl rfl ?_
    refine L.nil ?_
    refine T.thenN ?_
    refine T.ret ?_
    exact T.ret1 rfl rfl ⟨rfl, rfl, rfl⟩ qD qF
set_option maxHeartbeats 400000 in
theorem rput_spec {a : Option Addr} {n c : Nat} {l : List PO} {k : ID32} {m u : Int} (hn : n ≤ 1000000) (hnd : NDk l) : Spec Try.prog 15 [.slice a n c, S k.1, .int .i64 m, .int .i64 u] [rsl 3 a n c (l.map poR)] [] (fun v D' M' => ∃ (a' : Option Addr) (n' c' : Nat), v = .tuple #[.slice a' n' c', .int .i64 (putL l k m u).2] ∧ ((putL l k m u).1.length = n') ∧ D' = [rsl 3 a' n' c' ((putL l k m u).1.map poR)] ∧ M' = []) := by
  refine Spec.intro (n := 76) Try.func15 rfl rfl (by decide) (Nat.le_of_ble_eq_true rfl) rfl (fun _ => qA) (fun _ => qA) ?_
  intro σ D M
  refine T.rslLen2 (rows := l.map poR) qM (fun hpl hpc => ?_)
  rw [List.length_map] at hpl
  
  refine T.seq ?_
  refine T.region ?_
  refine L.assign rfl rfl ?_
  refine L.assign rfl rfl ?_
  refine L.nil ?_
  refine T.thenN ?_
  refine T.seq ?_
  refine T.seq ?_
  refine T.cutC (fun K' D' M' => ∃ (w : Bool), (w = true ↔ (m < 0 ∨ 63 < m)) ∧ K' = [(18, .bool w)] ∧ D' = [] ∧ M' = []) (M0 := []) (.cons (t := 0) rfl <| .cons (t := 1) rfl <| .cons (t := 2) rfl <| .cons (t := 3) rfl <| SubK.nil _) qS ?_ ?_
  · skip
    refine T.region ?_
    refine L.move rfl rfl ?_
    refine L.ltI rfl rfl rfl ?_
    refine L.move rfl rfl ?_
    refine L.part (t := 15) rfl (fun h1 => ?_) (fun h1 => ?_)
    · try simp only [decide_eq_true_eq, decide_eq_false_iff_not, Bool.not_eq_true', Bool.not_eq_false', Bool.and_eq_true, Bool.or_eq_true] at h1
      refine L.guardF (dj := 15) (c := true) rfl rfl rfl rfl rfl (by decide) ?_
      refine L.guardF (dj := 15) (c := true) rfl rfl rfl rfl rfl (by decide) ?_
      refine L.pickT rfl rfl rfl ?_
      refine L.nil ?_
      refine T.thenN ?_
      exact T.toJoin ⟨_, (by simp_all <;> omega), rfl, rfl, rfl⟩ (.cons (t := 18) rfl <| SubK.nil _) (.cons (t := 0) rfl <| .cons (t := 1) rfl <| .cons (t := 2) rfl <| .cons (t := 3) rfl <| SubK.nil _) qD qD qF
    · try simp only [decide_eq_true_eq, decide_eq_false_iff_not, Bool.not_eq_true', Bool.not_eq_false', Bool.and_eq_true, Bool.or_eq_true] at h1
      refine L.guardT (dj := 15) rfl rfl rfl ?_
      refine L.move rfl rfl ?_
      refine L.guardT (dj := 15) rfl rfl rfl ?_
      refine L.gtI rfl rfl rfl ?_
      refine L.pickF rfl rfl rfl ?_
      refine L.nil ?_
      refine T.thenN ?_
      exact T.toJoin ⟨_, (by simp_all <;> omega), rfl, rfl, rfl⟩ (.cons (t := 18) rfl <| SubK.nil _) (.cons (t := 0) rfl <| .cons (t := 1) rfl <| .cons (t := 2) rfl <| .cons (t := 3) rfl <| SubK.nil _) qD qD qF
  rintro _ _ _ ⟨w, hw, rfl, rfl, rfl⟩
  refine T.norm3 qA qA qA ?_
  refine T.thenN ?_
  refine T.cond rfl (fun h18 => ?_) (fun h18 => ?_)
  · try simp only [decide_eq_true_eq, decide_eq_false_iff_not, Bool.not_eq_true', Bool.not_eq_false', Bool.and_eq_true, Bool.or_eq_true] at h18
    have hP : putL l k m u = (l, 10) := by unfold putL; rw [if_pos (hw.1 h18)]
    refine T.seq ?_
    refine T.region ?_
    refine L.move rfl rfl ?_
    refine L.assign rfl rfl ?_
    refine L.assign rfl rfl ?_
    refine L.nil ?_
    refine T.thenN ?_
    refine T.ret ?_
    refine T.thenR ?_
    rw [hP]
    exact T.ret2 rfl rfl rfl ⟨_, _, _, rfl, hpl, rfl, rfl⟩ qD qF
  · try simp only [decide_eq_true_eq, decide_eq_false_iff_not, Bool.not_eq_true', Bool.not_eq_false', Bool.and_eq_true, Bool.or_eq_true] at h18
    have hbad : ¬ (m < 0 ∨ 63 < m) := fun e => by have := hw.2 e; rw [h18] at this; cases this
    refine T.skip ?_
    refine T.thenN ?_
    refine T.seq ?_
    refine T.seq ?_
    refine T.region ?_
    refine L.move rfl rfl ?_
    refine L.lenSl rfl Try.underlying40 rfl ?_
    refine L.move rfl rfl ?_
    refine L.nil ?_
    refine T.thenN ?_
    refine T.block ?_
    refine T.loop (fun K' D' M' μ => ∃ (i : Nat), (i ≤ n ∧ ∀ y ∈ l.take i, isK k m y ≠ true) ∧ K' = [(22, .int .i64 (i : Int))] ∧ D' = [] ∧ M' = [] ∧ μ = n - i) (.cons (t := 0) rfl <| .cons (t := 1) rfl <| .cons (t := 2) rfl <| .cons (t := 3) rfl <| .cons (t := 20) rfl <| .cons (t := 21) rfl <| SubK.nil _) (⟨0, ⟨Nat.zero_le _, by simp⟩, rfl, rfl, rfl, rfl⟩) (.cons (t := 22) rfl <| SubK.nil _) qD qS ?_
    rintro K1 D1 M1 m1 ⟨i, ⟨hi, hno⟩, rfl, rfl, rfl, rfl⟩
    refine T.norm3 qA qA qA ?_
    refine T.seq ?_
    refine T.region ?_
    refine L.ltI rfl rfl rfl ?_
    refine L.nil ?_
    refine T.thenN ?_
    refine T.seq ?_
    refine T.cond rfl (fun h23 => ?_) (fun h23 => ?_)
    · try simp only [decide_eq_true_eq, decide_eq_false_iff_not, Bool.not_eq_true', Bool.not_eq_false', Bool.and_eq_true, Bool.or_eq_true] at h23
      refine T.skip ?_
      refine T.thenN ?_
      refine T.seq ?_
      refine T.block ?_
      refine T.seq ?_
      have hgi : l[i]? = some (gd l i) := gd_get (by omega)
      obtain ⟨x, hx_⟩ : ∃ z, z = gd l i := ⟨_, rfl⟩
      rw [← hx_] at hgi
      clear hx_
      have hgr : (l.map poR)[i]? = some (poR x) := map_get hgi
      refine T.region ?_
      refine L.move rfl rfl ?_
      refine L.idx (i := i) rfl Try.underlying40 sz52 rfl rfl qM (by first | rfl | omega | (simp; done)) qG (fun b25 o25 => ?_)
      refine L.loadA rfl ag52 rfl (CellsN.ofD qM (poR_len _)) ?_
      refine L.alloc rfl ze52 (fun b11 => ?_)
      refine L.assign rfl rfl ?_
      refine L.storeA ag52 rfl rfl qL qO qU qW ?_
      refine L.nil ?_
      refine T.freeze (A := cl b11 52 (poR x)) qP ?_
      refine T.thenN ?_
      refine T.seq ?_
      refine T.cutC (fun K' D' M' => ∃ (w : Bool), (w = true ↔ (x.1 = k ∧ x.2.1 = m)) ∧ K' = [(36, .bool w)] ∧ D' = [] ∧ M' = []) (M0 := []) (.cons (t := 0) rfl <| .cons (t := 1) rfl <| .cons (t := 2) rfl <| .cons (t := 3) rfl <| .cons (t := 10) rfl <| .cons (t := 11) rfl <| .cons (t := 20) rfl <| .cons (t := 21) rfl <| .cons (t := 22) rfl <| SubK.nil _) qS ?_ ?_
      · skip
        refine T.region ?_
        first | refine L.field0 rfl fo52_0 rfl ?_ | refine L.field rfl fo52_0 rfl ?_
        refine L.load rfl sc9 rfl qC ?_
        refine L.move rfl rfl ?_
        refine L.eqS rfl rfl rfl ?_
        refine L.move rfl rfl ?_
        refine L.part (t := 31) rfl (fun h2 => ?_) (fun h2 => ?_)
        · try simp only [decide_eq_true_eq, decide_eq_false_iff_not, Bool.not_eq_true', Bool.not_eq_false', Bool.and_eq_true, Bool.or_eq_true] at h2
          refine L.guardT (dj := 31) rfl rfl rfl ?_
          first | refine L.field0 rfl fo52_1 rfl ?_ | refine L.field rfl fo52_1 rfl ?_
          refine L.guardT (dj := 31) rfl rfl rfl ?_
          refine L.load rfl sc3 rfl qC ?_
          refine L.guardT (dj := 31) rfl rfl rfl ?_
          refine L.move rfl rfl ?_
          refine L.guardT (dj := 31) rfl rfl rfl ?_
          refine L.eqI rfl rfl rfl ?_
          refine L.pickT rfl rfl rfl ?_
          refine L.nil ?_
          refine T.thenN ?_
          exact T.toJoin ⟨_, (by simp_all [Subtype.ext_iff]), rfl, rfl, rfl⟩ (.cons (t := 36) rfl <| SubK.nil _) (.cons (t := 0) rfl <| .cons (t := 1) rfl <| .cons (t := 2) rfl <| .cons (t := 3) rfl <| .cons (t := 10) rfl <| .cons (t := 11) rfl <| .cons (t := 20) rfl <| .cons (t := 21) rfl <| .cons (t := 22) rfl <| SubK.nil _) qD qD qF
        · try simp only [decide_eq_true_eq, decide_eq_false_iff_not, Bool.not_eq_true', Bool.not_eq_false', Bool.and_eq_true, Bool.or_eq_true] at h2
          refine L.guardF (dj := 31) (c := false) rfl rfl rfl rfl rfl (by decide) ?_
          refine L.guardF (dj := 31) (c := false) rfl rfl rfl rfl rfl (by decide) ?_
          refine L.guardF (dj := 31) (c := false) rfl rfl rfl rfl rfl (by decide) ?_
          refine L.guardF (dj := 31) (c := false) rfl rfl rfl rfl rfl (by decide) ?_
          refine L.pickF rfl rfl rfl ?_
          refine L.nil ?_
          refine T.thenN ?_
          exact T.toJoin ⟨_, (by simp_all [Subtype.ext_iff]), rfl, rfl, rfl⟩ (.cons (t := 36) rfl <| SubK.nil _) (.cons (t := 0) rfl <| .cons (t := 1) rfl <| .cons (t := 2) rfl <| .cons (t := 3) rfl <| .cons (t := 10) rfl <| .cons (t := 11) rfl <| .cons (t := 20) rfl <| .cons (t := 21) rfl <| .cons (t := 22) rfl <| SubK.nil _) qD qD qF
      rintro _ _ _ ⟨w, hw6, rfl, rfl, rfl⟩
      refine T.norm3 qA qA qA ?_
      refine T.thenN ?_
      refine T.cond rfl (fun h36 => ?_) (fun h36 => ?_)
      · try simp only [decide_eq_true_eq, decide_eq_false_iff_not, Bool.not_eq_true', Bool.not_eq_false', Bool.and_eq_true, Bool.or_eq_true] at h36
        have h36 := hw6.1 h36
        refine T.seq ?_
        refine T.region ?_
        refine L.buildSlice rfl bs40 (by decide) (BP.doneE (out := []) rfl) (fun b37 => ?_)
        refine L.toOwn (len := 0) qP (rows := (([] : List PO)).map poR) (sz := 3) (by rfl) rfl (by simp) ?_
        refine L.move rfl rfl ?_
        refine L.appendR rfl Try.underlying40 Try.underlying40 el52 rfl rfl qP (rd_D qM) one_pos qI qI (fun a39 c39 => ?_)
        refine L.assign rfl rfl ?_
        refine L.nil ?_
        simp only [Nat.zero_add, List.map_nil, List.nil_append]
        refine T.thenN ?_
        refine T.seq ?_
        refine T.ownNe qM (by omega) (fun ob oo ha => ?_)
        subst ha
        have hk : isK k m x = true := decide_eq_true h36
        have hany : l.any (isK k m) = true := List.any_eq_true.2 ⟨x, List.mem_of_getElem? hgi, hk⟩
        have hset := setU_at (u := u) hnd hgi hk
        have hP : putL l k m u = (setU l k m u, 0) := by unfold putL; rw [if_neg hbad, if_pos hany]
        refine T.region ?_
        refine L.move rfl rfl ?_
        refine L.move rfl rfl ?_
        first | refine L.field0 rfl fo52_2 rfl ?_ | refine L.field rfl fo52_2 rfl ?_
        refine L.load rfl sc3 rfl qC ?_
        refine L.move rfl rfl ?_
        refine L.maxI rfl rfl rfl ?_
        refine L.idxG (i := i) rfl Try.underlying40 sz52 rfl rfl (by first | rfl | omega | (simp; done)) qI ?_
        first | refine L.field0 rfl fo52_2 rfl ?_ | refine L.field rfl fo52_2 rfl ?_
        refine L.storeF (i) (2) sc3 rfl (by first | rfl | omega | (simp; done)) rfl rfl qP qG qE ?_
        refine L.nil ?_
        refine T.ownEq (sz := 3) _ ((setU l k m u).map poR) qP (by rw [hset, List.map_set]) ?_
        refine T.ownRsl (rows := (setU l k m u).map poR) qP ?_
        refine T.thenN ?_
        refine T.seq ?_
        refine T.region ?_
        refine L.move rfl rfl ?_
        refine L.assign rfl rfl ?_
        refine L.assign rfl rfl ?_
        refine L.nil ?_
        refine T.thenN ?_
        refine T.ret ?_
        refine T.blkR ?_
        refine T.thenR ?_
        refine T.thenR ?_
        refine T.blkR ?_
        refine T.thenR ?_
        rw [hP]
        exact T.ret2 rfl rfl rfl ⟨_, _, _, rfl, by show (setU l k m u).length = _; rw [hset, List.length_set]; omega, rfl, rfl⟩ qD qF
      · try simp only [decide_eq_true_eq, decide_eq_false_iff_not, Bool.not_eq_true', Bool.not_eq_false', Bool.and_eq_true, Bool.or_eq_true] at h36
        have h36 : ¬ (x.1 = k ∧ x.2.1 = m) := fun e => by have := hw6.2 e; rw [h36] at this; cases this
        refine T.skip ?_
        refine T.blkN ?_
        refine T.thenN ?_
        refine T.region ?_
        refine L.addN rfl rfl rfl (by omega) ?_
        refine L.move rfl rfl ?_
        refine L.nil ?_
        refine T.thenN ?_
        exact T.back ⟨i + 1, ⟨by omega, fun y hy => by
          rw [List.take_add_one, hgi] at hy
          rcases List.mem_append.1 hy with q | q
          · exact hno y q
          · obtain rfl : y = x := by simpa using q
            exact fun z => h36 (of_decide_eq_true z)⟩, rfl, rfl, rfl, rfl⟩ qI (.cons (t := 22) rfl <| SubK.nil _) (.cons (t := 0) rfl <| .cons (t := 1) rfl <| .cons (t := 2) rfl <| .cons (t := 3) rfl <| .cons (t := 20) rfl <| .cons (t := 21) rfl <| SubK.nil _) qD qD qF
    · try simp only [decide_eq_true_eq, decide_eq_false_iff_not, Bool.not_eq_true', Bool.not_eq_false', Bool.and_eq_true, Bool.or_eq_true] at h23
      obtain rfl : n = i := by omega
      rw [List.take_of_length_le (by omega)] at hno
      have hany : l.any (isK k m) = false := by rw [List.any_eq_false]; intro y hy q; exact hno y hy q
      have hcl := cntF_le (l := l) (k := k)
      have hnl := nmsF_le (l := l) l.length
      have hnm : (ddN ((idsP l).take l.length)).length = nmsF l := by unfold nmsF; rw [List.take_of_length_le (by unfold idsP; rw [List.length_map]; exact Nat.le_refl _)]
      refine T.exit ?_
      refine T.thenX ?_
      refine T.thenX ?_
      refine T.blkX ?_
      refine T.thenN ?_
      refine T.seq ?_
      refine T.seq ?_
      refine T.cutC (fun K' D' M' => ∃ (w : Bool), (w = true ↔ ((cntF l k = 0 ∧ 64 ≤ nmsF l) ∨ 8 ≤ cntF l k)) ∧ K' = [(64, .bool w)] ∧ D' = [] ∧ M' = []) (M0 := []) (.cons (t := 0) rfl <| .cons (t := 1) rfl <| .cons (t := 2) rfl <| .cons (t := 3) rfl <| SubK.nil _) qS ?_ ?_
      · skip
        refine T.region ?_
        refine L.move rfl rfl ?_
        refine L.move rfl rfl ?_
        refine L.callF rfl (evs.cons rfl <| evs.cons rfl <| evs.nil) qD qS (rcount_spec (l := l) (k := k) hn) (by rintro u D1 M1 ⟨rfl, rfl, rfl⟩; exact ⟨rfl, _, qA, qF⟩) ?_
        refine L.eqI rfl rfl rfl ?_
        refine L.move rfl rfl ?_
        refine L.part (t := 54) rfl (fun h3 => ?_) (fun h3 => ?_)
        · try simp only [decide_eq_true_eq, decide_eq_false_iff_not, Bool.not_eq_true', Bool.not_eq_false', Bool.and_eq_true, Bool.or_eq_true] at h3
          refine L.guardT (dj := 54) rfl rfl rfl ?_
          refine L.move rfl rfl ?_
          refine L.guardT (dj := 54) rfl rfl rfl ?_
          refine L.callF rfl (evs.cons rfl <| evs.nil) qD qS (rnames_spec (l := l) hn) (by rintro u D1 M1 ⟨rfl, rfl, rfl⟩; exact ⟨rfl, _, qA, qF⟩) ?_
          refine L.guardT (dj := 54) rfl rfl rfl ?_
          refine L.geI rfl rfl rfl ?_
          refine L.pickT rfl rfl rfl ?_
          refine L.move rfl rfl ?_
          refine L.part (t := 59) rfl (fun h4 => ?_) (fun h4 => ?_)
          · try simp only [decide_eq_true_eq, decide_eq_false_iff_not, Bool.not_eq_true', Bool.not_eq_false', Bool.and_eq_true, Bool.or_eq_true] at h4
            refine L.guardF (dj := 59) (c := true) rfl rfl rfl rfl rfl (by decide) ?_
            refine L.guardF (dj := 59) (c := true) rfl rfl rfl rfl rfl (by decide) ?_
            refine L.guardF (dj := 59) (c := true) rfl rfl rfl rfl rfl (by decide) ?_
            refine L.guardF (dj := 59) (c := true) rfl rfl rfl rfl rfl (by decide) ?_
            refine L.pickT rfl rfl rfl ?_
            refine L.nil ?_
            refine T.thenN ?_
            exact T.toJoin ⟨_, (by simp_all <;> omega), rfl, rfl, rfl⟩ (.cons (t := 64) rfl <| SubK.nil _) (.cons (t := 0) rfl <| .cons (t := 1) rfl <| .cons (t := 2) rfl <| .cons (t := 3) rfl <| SubK.nil _) qD qD qF
          · try simp only [decide_eq_true_eq, decide_eq_false_iff_not, Bool.not_eq_true', Bool.not_eq_false', Bool.and_eq_true, Bool.or_eq_true] at h4
            refine L.guardT (dj := 59) rfl rfl rfl ?_
            refine L.move rfl rfl ?_
            refine L.guardT (dj := 59) rfl rfl rfl ?_
            refine L.move rfl rfl ?_
            refine L.guardT (dj := 59) rfl rfl rfl ?_
            refine L.callF rfl (evs.cons rfl <| evs.cons rfl <| evs.nil) qD qS (rcount_spec (l := l) (k := k) hn) (by rintro u D1 M1 ⟨rfl, rfl, rfl⟩; exact ⟨rfl, _, qA, qF⟩) ?_
            refine L.guardT (dj := 59) rfl rfl rfl ?_
            refine L.geI rfl rfl rfl ?_
            refine L.pickF rfl rfl rfl ?_
            refine L.nil ?_
            refine T.thenN ?_
            exact T.toJoin ⟨_, (by simp_all <;> omega), rfl, rfl, rfl⟩ (.cons (t := 64) rfl <| SubK.nil _) (.cons (t := 0) rfl <| .cons (t := 1) rfl <| .cons (t := 2) rfl <| .cons (t := 3) rfl <| SubK.nil _) qD qD qF
        · try simp only [decide_eq_true_eq, decide_eq_false_iff_not, Bool.not_eq_true', Bool.not_eq_false', Bool.and_eq_true, Bool.or_eq_true] at h3
          refine L.guardF (dj := 54) (c := false) rfl rfl rfl rfl rfl (by decide) ?_
          refine L.guardF (dj := 54) (c := false) rfl rfl rfl rfl rfl (by decide) ?_
          refine L.guardF (dj := 54) (c := false) rfl rfl rfl rfl rfl (by decide) ?_
          refine L.pickF rfl rfl rfl ?_
          refine L.move rfl rfl ?_
          refine L.guardT (dj := 59) rfl rfl rfl ?_
          refine L.move rfl rfl ?_
          refine L.guardT (dj := 59) rfl rfl rfl ?_
          refine L.move rfl rfl ?_
          refine L.guardT (dj := 59) rfl rfl rfl ?_
          refine L.callF rfl (evs.cons rfl <| evs.cons rfl <| evs.nil) qD qS (rcount_spec (l := l) (k := k) hn) (by rintro u D1 M1 ⟨rfl, rfl, rfl⟩; exact ⟨rfl, _, qA, qF⟩) ?_
          refine L.guardT (dj := 59) rfl rfl rfl ?_
          refine L.geI rfl rfl rfl ?_
          refine L.pickF rfl rfl rfl ?_
          refine L.nil ?_
          refine T.thenN ?_
          exact T.toJoin ⟨_, (by simp_all <;> omega), rfl, rfl, rfl⟩ (.cons (t := 64) rfl <| SubK.nil _) (.cons (t := 0) rfl <| .cons (t := 1) rfl <| .cons (t := 2) rfl <| .cons (t := 3) rfl <| SubK.nil _) qD qD qF
      rintro _ _ _ ⟨w, hw11, rfl, rfl, rfl⟩
      refine T.norm3 qA qA qA ?_
      refine T.thenN ?_
      refine T.cond rfl (fun h64 => ?_) (fun h64 => ?_)
      · try simp only [decide_eq_true_eq, decide_eq_false_iff_not, Bool.not_eq_true', Bool.not_eq_false', Bool.and_eq_true, Bool.or_eq_true] at h64
        have hP : putL l k m u = (l, 14) := by unfold putL; rw [if_neg hbad, if_neg (by rw [hany]; decide), if_pos (hw11.1 h64)]
        refine T.seq ?_
        refine T.region ?_
        refine L.move rfl rfl ?_
        refine L.assign rfl rfl ?_
        refine L.assign rfl rfl ?_
        refine L.nil ?_
        refine T.thenN ?_
        refine T.ret ?_
        refine T.thenR ?_
        rw [hP]
        exact T.ret2 rfl rfl rfl ⟨_, _, _, rfl, hpl, rfl, rfl⟩ qD qF
      · try simp only [decide_eq_true_eq, decide_eq_false_iff_not, Bool.not_eq_true', Bool.not_eq_false', Bool.and_eq_true, Bool.or_eq_true] at h64
        have hP : putL l k m u = (l ++ [(k, m, max u 0)], 0) := by unfold putL; rw [if_neg hbad, if_neg (by rw [hany]; decide), if_neg (fun e => by have := hw11.2 e; rw [h64] at this; cases this)]
        refine T.skip ?_
        refine T.thenN ?_
        refine T.seq ?_
        refine T.region ?_
        refine L.buildSlice rfl bs40 (by decide) (BP.doneE (out := []) rfl) (fun b66 => ?_)
        refine L.toOwn (len := 0) qP (rows := (([] : List PO)).map poR) (sz := 3) (by rfl) rfl (by simp) ?_
        refine L.move rfl rfl ?_
        refine L.appendR rfl Try.underlying40 Try.underlying40 el52 rfl rfl qP (rd_D qM) one_pos qI qI (fun a68 c68 => ?_)
        refine L.move rfl rfl ?_
        refine L.move rfl rfl ?_
        refine L.move rfl rfl ?_
        refine L.maxI rfl rfl rfl ?_
        refine L.build rfl bu52 (BP.one rfl rfl rfl <| BP.one rfl rfl rfl <| BP.one rfl rfl rfl <| BP.doneE (out := []) rfl) ?_
        refine L.buildSlice rfl bs40 (by decide) (BP.agg rfl rfl (by first | with_reducible assumption | (simp; done) | (simp only [List.length_map]; with_reducible assumption) | (simp [*]; done) | rfl) (Nat.le_of_ble_eq_true rfl) qR <| BP.doneE (out := []) rfl) (fun b74 => ?_)
        refine L.append1 rfl Try.underlying40 el52 rfl rfl qP qM rfl qO1 qI qI (fun a75 c75 => ?_)
        refine L.assign rfl rfl ?_
        refine L.assign rfl rfl ?_
        refine L.nil ?_
        refine T.ownEq (sz := 3) _ ((l ++ [(k, m, max u 0)]).map poR) qP (by rw [List.map_append]; rfl) ?_
        refine T.ownRsl (rows := (l ++ [(k, m, max u 0)]).map poR) qP ?_
        refine T.thenN ?_
        refine T.ret ?_
        rw [hP]
        exact T.ret2 rfl rfl rfl ⟨_, _, _, rfl, by show (l ++ [(k, m, max u 0)]).length = _; rw [List.length_append]; simp only [List.length_singleton]; omega, rfl, rfl⟩ qD qF
set_option maxHeartbeats 400000 in
theorem rget_spec {a : Option Addr} {n c : Nat} {l : List PO} {k : ID32} {now : Int} (hn : n ≤ 10000) : Spec Try.prog 19 [.slice a n c, S k.1, .int .i64 now] [rsl 3 a n c (l.map poR)] [] (fun v D' M' => ∃ (a' : Option Addr) (n' c' : Nat), v = .slice a' n' c' ∧ ((getR l k now).length = n') ∧ D' = [] ∧ M' = [own 1 3 a' n' c' ((getR l k now).map e3)]) := by
  refine Spec.intro (n := 44) Try.func19 rfl rfl (by decide) (Nat.le_of_ble_eq_true rfl) rfl (fun _ => qA) (fun _ => qA) ?_
  intro σ D M
  refine T.rslLen2 (rows := l.map poR) qM (fun hpl hpc => ?_)
  rw [List.length_map] at hpl
  
  refine T.seq ?_
  refine T.region ?_
  refine L.assign rfl rfl ?_
  refine L.nil ?_
  refine T.thenN ?_
  refine T.seq ?_
  refine T.region ?_
  refine L.buildSlice rfl bs29 (by decide) (BP.doneE (out := []) rfl) (fun b11 => ?_)
  refine L.toOwn (len := 0) qP (rows := (getN l k now 0).map e3) (sz := 1) (by rfl) rfl (by simp [getN]) ?_
  refine L.assign rfl rfl ?_
  refine L.nil ?_
  refine T.thenN ?_
  refine T.seq ?_
  refine T.seq ?_
  refine T.region ?_
  refine L.assign rfl rfl ?_
  refine L.nil ?_
  refine T.thenN ?_
  refine T.block ?_
  refine T.loop (fun K' D' M' μ => ∃ (i n7 c7 : Nat) (a7 : Option Addr), (i ≤ 64 ∧ (getN l k now i).length = n7) ∧ K' = [(8, .int .i64 (i : Int)), (7, .slice a7 n7 c7)] ∧ D' = [] ∧ M' = [own 1 3 a7 n7 c7 ((getN l k now i).map e3)] ∧ μ = 64 - i) (.cons (t := 0) rfl <| .cons (t := 1) rfl <| .cons (t := 2) rfl <| SubK.nil _) (⟨0, 0, _, _, ⟨Nat.zero_le _, rfl⟩, rfl, rfl, rfl, rfl⟩) (.cons (t := 8) rfl <| .cons (t := 7) rfl <| SubK.nil _) qD qS ?_
  rintro K1 D1 M1 m1 ⟨i, n7, c7, a7, ⟨hi, hl7⟩, rfl, rfl, rfl, rfl⟩
  refine T.norm3 qA qA qA ?_
  have hnl := getN_len (l := l) (k := k) (now := now) i
  have hmul : i * l.length ≤ 64 * 10000 := Nat.mul_le_mul hi (by omega)
  refine T.seq ?_
  refine T.seq ?_
  refine T.region ?_
  refine L.move rfl rfl ?_
  refine L.ltI rfl rfl rfl ?_
  refine L.nil ?_
  refine T.thenN ?_
  refine T.cond rfl (fun h13 => ?_) (fun h13 => ?_)
  · try simp only [decide_eq_true_eq, decide_eq_false_iff_not, Bool.not_eq_true', Bool.not_eq_false', Bool.and_eq_true, Bool.or_eq_true] at h13
    refine T.skip ?_
    refine T.thenN ?_
    refine T.seq ?_
    refine T.block ?_
    refine T.seq ?_
    refine T.region ?_
    refine L.move rfl rfl ?_
    refine L.lenSl rfl Try.underlying40 rfl ?_
    refine L.move rfl rfl ?_
    refine L.nil ?_
    refine T.thenN ?_
    refine T.block ?_
    refine T.ownEq _ ((getN l k now i ++ getI l k now i 0).map e3) qP (by simp [getI]) ?_
    refine T.loop (fun K' D' M' μ => ∃ (j n7 c7 : Nat) (a7 : Option Addr), (j ≤ n ∧ (getN l k now i ++ getI l k now i j).length = n7) ∧ K' = [(18, .int .i64 (j : Int)), (7, .slice a7 n7 c7)] ∧ D' = [] ∧ M' = [own 1 3 a7 n7 c7 (((getN l k now i ++ getI l k now i j)).map e3)] ∧ μ = n - j) (.cons (t := 0) rfl <| .cons (t := 1) rfl <| .cons (t := 2) rfl <| .cons (t := 8) rfl <| .cons (t := 16) rfl <| .cons (t := 17) rfl <| SubK.nil _) (⟨0, n7, _, _, ⟨Nat.zero_le _, by rw [List.length_append, hl7]; simp [getI]⟩, rfl, rfl, rfl, rfl⟩) (.cons (t := 18) rfl <| .cons (t := 7) rfl <| SubK.nil _) qD qS ?_
    rintro K1 D1 M1 m1 ⟨j, n7, c7, a7, ⟨hj, hl8⟩, rfl, rfl, rfl, rfl⟩
    refine T.norm3 qA qA qA ?_
    have hil := @getI_len l k now i j
    rw [List.length_append] at hl8
    refine T.seq ?_
    refine T.region ?_
    refine L.ltI rfl rfl rfl ?_
    refine L.nil ?_
    refine T.thenN ?_
    refine T.seq ?_
    refine T.cond rfl (fun h19 => ?_) (fun h19 => ?_)
    · try simp only [decide_eq_true_eq, decide_eq_false_iff_not, Bool.not_eq_true', Bool.not_eq_false', Bool.and_eq_true, Bool.or_eq_true] at h19
      refine T.skip ?_
      refine T.thenN ?_
      refine T.seq ?_
      refine T.block ?_
      refine T.seq ?_
      have hgi : l[j]? = some (gd l j) := gd_get (by omega)
      obtain ⟨x, hx_⟩ : ∃ z, z = gd l j := ⟨_, rfl⟩
      rw [← hx_] at hgi
      clear hx_
      have hgr : (l.map poR)[j]? = some (poR x) := map_get hgi
      have hgs := getI_s (k := k) (now := now) (n := i) hgi
      refine T.region ?_
      refine L.idx (i := j) rfl Try.underlying40 sz52 rfl rfl qM (by first | rfl | omega | (simp; done)) qG (fun b20 o20 => ?_)
      refine L.loadA rfl ag52 rfl (CellsN.ofD qM (poR_len _)) ?_
      refine L.alloc rfl ze52 (fun b10 => ?_)
      refine L.storeA ag52 rfl rfl qL qO qU qW ?_
      refine L.nil ?_
      refine T.freeze (A := cl b10 52 (poR x)) qP ?_
      refine T.thenN ?_
      refine T.seq ?_
      refine T.cutC (fun K' D' M' => ∃ (w : Bool), (w = true ↔ (x.1 = k ∧ x.2.1 = (i : Int) ∧ now < x.2.2)) ∧ K' = [(37, .bool w)] ∧ D' = [] ∧ M' = []) (M0 := []) (.cons (t := 0) rfl <| .cons (t := 1) rfl <| .cons (t := 2) rfl <| .cons (t := 7) rfl <| .cons (t := 8) rfl <| .cons (t := 16) rfl <| .cons (t := 17) rfl <| .cons (t := 18) rfl <| SubK.nil _) qS ?_ ?_
      · skip
        refine T.region ?_
        first | refine L.field0 rfl fo52_0 rfl ?_ | refine L.field rfl fo52_0 rfl ?_
        refine L.load rfl sc9 rfl qC ?_
        refine L.move rfl rfl ?_
        refine L.eqS rfl rfl rfl ?_
        refine L.move rfl rfl ?_
        refine L.part (t := 26) rfl (fun h1 => ?_) (fun h1 => ?_)
        · try simp only [decide_eq_true_eq, decide_eq_false_iff_not, Bool.not_eq_true', Bool.not_eq_false', Bool.and_eq_true, Bool.or_eq_true] at h1
          refine L.guardT (dj := 26) rfl rfl rfl ?_
          first | refine L.field0 rfl fo52_1 rfl ?_ | refine L.field rfl fo52_1 rfl ?_
          refine L.guardT (dj := 26) rfl rfl rfl ?_
          refine L.load rfl sc3 rfl qC ?_
          refine L.guardT (dj := 26) rfl rfl rfl ?_
          refine L.move rfl rfl ?_
          refine L.guardT (dj := 26) rfl rfl rfl ?_
          refine L.eqI rfl rfl rfl ?_
          refine L.pickT rfl rfl rfl ?_
          refine L.move rfl rfl ?_
          refine L.part (t := 32) rfl (fun h2 => ?_) (fun h2 => ?_)
          · try simp only [decide_eq_true_eq, decide_eq_false_iff_not, Bool.not_eq_true', Bool.not_eq_false', Bool.and_eq_true, Bool.or_eq_true] at h2
            refine L.guardT (dj := 32) rfl rfl rfl ?_
            refine L.move rfl rfl ?_
            refine L.guardT (dj := 32) rfl rfl rfl ?_
            first | refine L.field0 rfl fo52_2 rfl ?_ | refine L.field rfl fo52_2 rfl ?_
            refine L.guardT (dj := 32) rfl rfl rfl ?_
            refine L.load rfl sc3 rfl qC ?_
            refine L.guardT (dj := 32) rfl rfl rfl ?_
            refine L.ltI rfl rfl rfl ?_
            refine L.pickT rfl rfl rfl ?_
            refine L.nil ?_
            refine T.thenN ?_
            exact T.toJoin ⟨_, (by simp_all [Subtype.ext_iff]), rfl, rfl, rfl⟩ (.cons (t := 37) rfl <| SubK.nil _) (.cons (t := 0) rfl <| .cons (t := 1) rfl <| .cons (t := 2) rfl <| .cons (t := 7) rfl <| .cons (t := 8) rfl <| .cons (t := 16) rfl <| .cons (t := 17) rfl <| .cons (t := 18) rfl <| SubK.nil _) qD qD qF
          · try simp only [decide_eq_true_eq, decide_eq_false_iff_not, Bool.not_eq_true', Bool.not_eq_false', Bool.and_eq_true, Bool.or_eq_true] at h2
            refine L.guardF (dj := 32) (c := false) rfl rfl rfl rfl rfl (by decide) ?_
            refine L.guardF (dj := 32) (c := false) rfl rfl rfl rfl rfl (by decide) ?_
            refine L.guardF (dj := 32) (c := false) rfl rfl rfl rfl rfl (by decide) ?_
            refine L.guardF (dj := 32) (c := false) rfl rfl rfl rfl rfl (by decide) ?_
            refine L.pickF rfl rfl rfl ?_
            refine L.nil ?_
            refine T.thenN ?_
            exact T.toJoin ⟨_, (by simp_all [Subtype.ext_iff]), rfl, rfl, rfl⟩ (.cons (t := 37) rfl <| SubK.nil _) (.cons (t := 0) rfl <| .cons (t := 1) rfl <| .cons (t := 2) rfl <| .cons (t := 7) rfl <| .cons (t := 8) rfl <| .cons (t := 16) rfl <| .cons (t := 17) rfl <| .cons (t := 18) rfl <| SubK.nil _) qD qD qF
        · try simp only [decide_eq_true_eq, decide_eq_false_iff_not, Bool.not_eq_true', Bool.not_eq_false', Bool.and_eq_true, Bool.or_eq_true] at h1
          refine L.guardF (dj := 26) (c := false) rfl rfl rfl rfl rfl (by decide) ?_
          refine L.guardF (dj := 26) (c := false) rfl rfl rfl rfl rfl (by decide) ?_
          refine L.guardF (dj := 26) (c := false) rfl rfl rfl rfl rfl (by decide) ?_
          refine L.guardF (dj := 26) (c := false) rfl rfl rfl rfl rfl (by decide) ?_
          refine L.pickF rfl rfl rfl ?_
          refine L.move rfl rfl ?_
          refine L.guardF (dj := 32) (c := false) rfl rfl rfl rfl rfl (by decide) ?_
          refine L.guardF (dj := 32) (c := false) rfl rfl rfl rfl rfl (by decide) ?_
          refine L.guardF (dj := 32) (c := false) rfl rfl rfl rfl rfl (by decide) ?_
          refine L.guardF (dj := 32) (c := false) rfl rfl rfl rfl rfl (by decide) ?_
          refine L.pickF rfl rfl rfl ?_
          refine L.nil ?_
          refine T.thenN ?_
          exact T.toJoin ⟨_, (by simp_all [Subtype.ext_iff]), rfl, rfl, rfl⟩ (.cons (t := 37) rfl <| SubK.nil _) (.cons (t := 0) rfl <| .cons (t := 1) rfl <| .cons (t := 2) rfl <| .cons (t := 7) rfl <| .cons (t := 8) rfl <| .cons (t := 16) rfl <| .cons (t := 17) rfl <| .cons (t := 18) rfl <| SubK.nil _) qD qD qF
      rintro _ _ _ ⟨w, hw, rfl, rfl, rfl⟩
      refine T.norm3 qA qA qA ?_
      refine T.thenN ?_
      refine T.cond rfl (fun h37 => ?_) (fun h37 => ?_)
      · try simp only [decide_eq_true_eq, decide_eq_false_iff_not, Bool.not_eq_true', Bool.not_eq_false', Bool.and_eq_true, Bool.or_eq_true] at h37
        have h37 := hw.1 h37
        rw [if_pos h37] at hgs
        refine T.region ?_
        refine L.move rfl rfl ?_
        refine L.move rfl rfl ?_
        refine L.buildSlice rfl bs29 (by decide) (BP.one rfl rfl rfl <| BP.doneE (out := []) rfl) (fun b40 => ?_)
        refine L.append1 rfl Try.underlying29 el3 rfl rfl qP qM rfl qO1 qI qI (fun a41 c41 => ?_)
        refine L.assign rfl rfl ?_
        refine L.nil ?_
        refine T.blkN ?_
        refine T.thenN ?_
        refine T.region ?_
        refine L.addN rfl rfl rfl (by omega) ?_
        refine L.move rfl rfl ?_
        refine L.nil ?_
        refine T.thenN ?_
        refine T.ownEq _ ((getN l k now i ++ getI l k now i (j + 1)).map e3) qP (by simp [hgs]) ?_
        exact T.back ⟨j + 1, n7 + 1, _, _, ⟨by omega, by rw [hgs, List.length_append, List.length_append]; simp only [List.length_singleton]; omega⟩, rfl, rfl, rfl, rfl⟩ qI (.cons (t := 18) rfl <| .cons (t := 7) rfl <| SubK.nil _) (.cons (t := 0) rfl <| .cons (t := 1) rfl <| .cons (t := 2) rfl <| .cons (t := 8) rfl <| .cons (t := 16) rfl <| .cons (t := 17) rfl <| SubK.nil _) qD qD qF
      · try simp only [decide_eq_true_eq, decide_eq_false_iff_not, Bool.not_eq_true', Bool.not_eq_false', Bool.and_eq_true, Bool.or_eq_true] at h37
        have h37 : ¬ (x.1 = k ∧ x.2.1 = (i : Int) ∧ now < x.2.2) := fun e => by have := hw.2 e; rw [h37] at this; cases this
        rw [if_neg h37, List.append_nil] at hgs
        refine T.skip ?_
        refine T.blkN ?_
        refine T.thenN ?_
        refine T.region ?_
        refine L.addN rfl rfl rfl (by omega) ?_
        refine L.move rfl rfl ?_
        refine L.nil ?_
        refine T.thenN ?_
        refine T.ownEq _ ((getN l k now i ++ getI l k now i (j + 1)).map e3) qP (by rw [hgs]) ?_
        exact T.back ⟨j + 1, n7, _, _, ⟨by omega, by rw [hgs, List.length_append]; omega⟩, rfl, rfl, rfl, rfl⟩ qI (.cons (t := 18) rfl <| .cons (t := 7) rfl <| SubK.nil _) (.cons (t := 0) rfl <| .cons (t := 1) rfl <| .cons (t := 2) rfl <| .cons (t := 8) rfl <| .cons (t := 16) rfl <| .cons (t := 17) rfl <| SubK.nil _) qD qD qF
    · try simp only [decide_eq_true_eq, decide_eq_false_iff_not, Bool.not_eq_true', Bool.not_eq_false', Bool.and_eq_true, Bool.or_eq_true] at h19
      obtain rfl : n = j := by omega
      refine T.exit ?_
      refine T.thenX ?_
      refine T.thenX ?_
      refine T.blkX ?_
      refine T.blkN ?_
      refine T.thenN ?_
      refine T.region ?_
      refine L.move rfl rfl ?_
      refine L.addN rfl rfl rfl (by omega) ?_
      refine L.assign rfl rfl ?_
      refine L.nil ?_
      refine T.thenN ?_
      refine T.ownEq _ ((getN l k now (i + 1)).map e3) qP (by rw [getN_s, show l.length = n from hpl]) ?_
      exact T.back ⟨i + 1, n7, _, _, ⟨by omega, by rw [getN_s, show l.length = n from hpl, List.length_append]; exact hl8⟩, rfl, rfl, rfl, rfl⟩ qI (.cons (t := 8) rfl <| .cons (t := 7) rfl <| SubK.nil _) (.cons (t := 0) rfl <| .cons (t := 1) rfl <| .cons (t := 2) rfl <| SubK.nil _) qD qD qF
  · try simp only [decide_eq_true_eq, decide_eq_false_iff_not, Bool.not_eq_true', Bool.not_eq_false', Bool.and_eq_true, Bool.or_eq_true] at h13
    obtain rfl : i = 64 := by omega
    refine T.exit ?_
    refine T.thenX ?_
    refine T.thenX ?_
    refine T.blkX ?_
    refine T.thenN ?_
    refine T.seq ?_
    refine T.region ?_
    refine L.move rfl rfl ?_
    refine L.assign rfl rfl ?_
    refine L.nil ?_
    refine T.thenN ?_
    refine T.ret ?_
    refine T.ownEq _ ((getR l k now).map e3) qP (by rw [getN_fin]) ?_
    exact T.ret1 rfl rfl ⟨_, _, _, rfl, by rw [← getN_fin]; exact hl7, rfl, rfl⟩ qD qF
set_option maxHeartbeats 400000 in
theorem rdrop_spec {a : Option Addr} {n c : Nat} {l : List PO} {k : ID32} {m : Int} (hn : n ≤ 1000000) : Spec Try.prog 17 [.slice a n c, S k.1, .int .i64 m] [rsl 3 a n c (l.map poR)] [] (fun v D' M' => ∃ (a' : Option Addr) (n' c' : Nat), v = .slice a' n' c' ∧ ((l.filter (fun x => !isK k m x)).length = n') ∧ D' = [rsl 3 a' n' c' ((l.filter (fun x => !isK k m x)).map poR)] ∧ M' = []) := by
  refine Spec.intro (n := 33) Try.func17 rfl rfl (by decide) (Nat.le_of_ble_eq_true rfl) rfl (fun _ => qA) (fun _ => qA) ?_
  intro σ D M
  refine T.rslLen2 (rows := l.map poR) qM (fun hpl hpc => ?_)
  rw [List.length_map] at hpl
  
  refine T.seq ?_
  refine T.region ?_
  refine L.assign rfl rfl ?_
  refine L.nil ?_
  refine T.thenN ?_
  refine T.seq ?_
  refine T.region ?_
  refine L.buildSlice rfl bs40 (by decide) (BP.doneE (out := []) rfl) (fun b10 => ?_)
  refine L.toOwn (len := 0) qP (rows := ((l.take 0).filter (fun x => !isK k m x)).map poR) (sz := 3) (by rfl) rfl (by simp) ?_
  refine L.assign rfl rfl ?_
  refine L.nil ?_
  refine T.thenN ?_
  refine T.seq ?_
  refine T.seq ?_
  refine T.region ?_
  refine L.move rfl rfl ?_
  refine L.lenSl rfl Try.underlying40 rfl ?_
  refine L.move rfl rfl ?_
  refine L.nil ?_
  refine T.thenN ?_
  refine T.block ?_
  refine T.loop (fun K' D' M' μ => ∃ (i n7 c7 : Nat) (a7 : Option Addr), (i ≤ n ∧ ((l.take i).filter (fun x => !isK k m x)).length = n7) ∧ K' = [(13, .int .i64 (i : Int)), (7, .slice a7 n7 c7)] ∧ D' = [] ∧ M' = [own 3 52 a7 n7 c7 ((((l.take i).filter (fun x => !isK k m x))).map poR)] ∧ μ = n - i) (.cons (t := 1) rfl <| .cons (t := 2) rfl <| .cons (t := 11) rfl <| .cons (t := 12) rfl <| SubK.nil _) (⟨0, 0, _, _, ⟨Nat.zero_le _, rfl⟩, rfl, rfl, rfl, rfl⟩) (.cons (t := 13) rfl <| .cons (t := 7) rfl <| SubK.nil _) qD qS ?_
  rintro K1 D1 M1 m1 ⟨i, n7, c7, a7, ⟨hi, hl7⟩, rfl, rfl, rfl, rfl⟩
  refine T.norm3 qA qA qA ?_
  refine T.seq ?_
  refine T.region ?_
  refine L.ltI rfl rfl rfl ?_
  refine L.nil ?_
  refine T.thenN ?_
  refine T.seq ?_
  refine T.cond rfl (fun h14 => ?_) (fun h14 => ?_)
  · try simp only [decide_eq_true_eq, decide_eq_false_iff_not, Bool.not_eq_true', Bool.not_eq_false', Bool.and_eq_true, Bool.or_eq_true] at h14
    refine T.skip ?_
    refine T.thenN ?_
    refine T.seq ?_
    refine T.block ?_
    refine T.seq ?_
    have hgi : l[i]? = some (gd l i) := gd_get (by omega)
    obtain ⟨x, hx_⟩ : ∃ z, z = gd l i := ⟨_, rfl⟩
    rw [← hx_] at hgi
    clear hx_
    have hgr : (l.map poR)[i]? = some (poR x) := map_get hgi
    have hfl : (((l.take i).filter (fun x => !isK k m x))).length ≤ i := Nat.le_trans (List.length_filter_le _ _) (by rw [List.length_take]; omega)
    refine T.region ?_
    refine L.idx (i := i) rfl Try.underlying40 sz52 rfl rfl qM (by first | rfl | omega | (simp; done)) qG (fun b15 o15 => ?_)
    refine L.loadA rfl ag52 rfl (CellsN.ofD qM (poR_len _)) ?_
    refine L.alloc rfl ze52 (fun b9 => ?_)
    refine L.storeA ag52 rfl rfl qL qO qU qW ?_
    refine L.nil ?_
    refine T.freeze (A := cl b9 52 (poR x)) qP ?_
    refine T.thenN ?_
    refine T.seq ?_
    refine T.cutC (fun K' D' M' => ∃ (w : Bool), (w = !isK k m x) ∧ K' = [(26, .bool w)] ∧ D' = [] ∧ M' = []) (M0 := []) (.cons (t := 1) rfl <| .cons (t := 2) rfl <| .cons (t := 7) rfl <| .cons (t := 9) rfl <| .cons (t := 11) rfl <| .cons (t := 12) rfl <| .cons (t := 13) rfl <| SubK.nil _) qS ?_ ?_
    · skip
      refine T.region ?_
      first | refine L.field0 rfl fo52_0 rfl ?_ | refine L.field rfl fo52_0 rfl ?_
      refine L.load rfl sc9 rfl qC ?_
      refine L.move rfl rfl ?_
      refine L.neS rfl rfl rfl ?_
      refine L.move rfl rfl ?_
      refine L.part (t := 21) rfl (fun h1 => ?_) (fun h1 => ?_)
      · try simp only [decide_eq_true_eq, decide_eq_false_iff_not, Bool.not_eq_true', Bool.not_eq_false', Bool.and_eq_true, Bool.or_eq_true] at h1
        refine L.guardF (dj := 21) (c := true) rfl rfl rfl rfl rfl (by decide) ?_
        refine L.guardF (dj := 21) (c := true) rfl rfl rfl rfl rfl (by decide) ?_
        refine L.guardF (dj := 21) (c := true) rfl rfl rfl rfl rfl (by decide) ?_
        refine L.guardF (dj := 21) (c := true) rfl rfl rfl rfl rfl (by decide) ?_
        refine L.pickT rfl rfl rfl ?_
        refine L.nil ?_
        refine T.thenN ?_
        exact T.toJoin ⟨_, (by unfold isK; simp_all [Subtype.ext_iff]), rfl, rfl, rfl⟩ (.cons (t := 26) rfl <| SubK.nil _) (.cons (t := 1) rfl <| .cons (t := 2) rfl <| .cons (t := 7) rfl <| .cons (t := 9) rfl <| .cons (t := 11) rfl <| .cons (t := 12) rfl <| .cons (t := 13) rfl <| SubK.nil _) qD qD qF
      · try simp only [decide_eq_true_eq, decide_eq_false_iff_not, Bool.not_eq_true', Bool.not_eq_false', Bool.and_eq_true, Bool.or_eq_true] at h1
        refine L.guardT (dj := 21) rfl rfl rfl ?_
        first | refine L.field0 rfl fo52_1 rfl ?_ | refine L.field rfl fo52_1 rfl ?_
        refine L.guardT (dj := 21) rfl rfl rfl ?_
        refine L.load rfl sc3 rfl qC ?_
        refine L.guardT (dj := 21) rfl rfl rfl ?_
        refine L.move rfl rfl ?_
        refine L.guardT (dj := 21) rfl rfl rfl ?_
        refine L.neI rfl rfl rfl ?_
        refine L.pickF rfl rfl rfl ?_
        refine L.nil ?_
        refine T.thenN ?_
        exact T.toJoin ⟨_, (by unfold isK; simp_all [Subtype.ext_iff]), rfl, rfl, rfl⟩ (.cons (t := 26) rfl <| SubK.nil _) (.cons (t := 1) rfl <| .cons (t := 2) rfl <| .cons (t := 7) rfl <| .cons (t := 9) rfl <| .cons (t := 11) rfl <| .cons (t := 12) rfl <| .cons (t := 13) rfl <| SubK.nil _) qD qD qF
    rintro _ _ _ ⟨w, hw, rfl, rfl, rfl⟩
    refine T.norm3 qA qA qA ?_
    refine T.thenN ?_
    refine T.cond rfl (fun h26 => ?_) (fun h26 => ?_)
    · try simp only [decide_eq_true_eq, decide_eq_false_iff_not, Bool.not_eq_true', Bool.not_eq_false', Bool.and_eq_true, Bool.or_eq_true] at h26
      have hfs : ((l.take (i + 1)).filter (fun x => !isK k m x)) = ((l.take i).filter (fun x => !isK k m x)) ++ [x] := by rw [List.take_add_one, hgi, List.filter_append]; simp only [Option.toList_some, List.filter_cons, List.filter_nil]; rw [if_pos (by rw [← hw]; exact h26)]
      refine T.region ?_
      refine L.move rfl rfl ?_
      refine L.loadA rfl ag52 rfl (CellsN.ofF qM (AtN.all (poR_len x))) ?_
      refine L.buildSlice rfl bs40 (by decide) (BP.agg rfl rfl (by first | with_reducible assumption | (simp; done) | (simp only [List.length_map]; with_reducible assumption) | (simp [*]; done) | rfl) (Nat.le_of_ble_eq_true rfl) qR <| BP.doneE (out := []) rfl) (fun b29 => ?_)
      refine L.append1 rfl Try.underlying40 el52 rfl rfl qP qM rfl qO1 qI qI (fun a30 c30 => ?_)
      refine L.assign rfl rfl ?_
      refine L.nil ?_
      refine T.blkN ?_
      refine T.thenN ?_
      refine T.region ?_
      refine L.addN rfl rfl rfl (by omega) ?_
      refine L.move rfl rfl ?_
      refine L.nil ?_
      refine T.thenN ?_
      refine T.ownEq (sz := 3) _ ((((l.take (i + 1)).filter (fun x => !isK k m x))).map poR) qP (by rw [hfs, List.map_append]; rfl) ?_
      exact T.back ⟨i + 1, n7 + 1, _, _, ⟨by omega, by rw [hfs, List.length_append, hl7]; rfl⟩, rfl, rfl, rfl, rfl⟩ qI (.cons (t := 13) rfl <| .cons (t := 7) rfl <| SubK.nil _) (.cons (t := 1) rfl <| .cons (t := 2) rfl <| .cons (t := 11) rfl <| .cons (t := 12) rfl <| SubK.nil _) qD qD qF
    · try simp only [decide_eq_true_eq, decide_eq_false_iff_not, Bool.not_eq_true', Bool.not_eq_false', Bool.and_eq_true, Bool.or_eq_true] at h26
      have hfs : ((l.take (i + 1)).filter (fun x => !isK k m x)) = ((l.take i).filter (fun x => !isK k m x)) := by rw [List.take_add_one, hgi, List.filter_append]; simp only [Option.toList_some, List.filter_cons, List.filter_nil]; rw [if_neg (by rw [← hw, h26]; decide), List.append_nil]
      refine T.skip ?_
      refine T.blkN ?_
      refine T.thenN ?_
      refine T.region ?_
      refine L.addN rfl rfl rfl (by omega) ?_
      refine L.move rfl rfl ?_
      refine L.nil ?_
      refine T.thenN ?_
      refine T.ownEq (sz := 3) _ ((((l.take (i + 1)).filter (fun x => !isK k m x))).map poR) qP (by rw [hfs]) ?_
      exact T.back ⟨i + 1, n7, _, _, ⟨by omega, by rw [hfs]; exact hl7⟩, rfl, rfl, rfl, rfl⟩ qI (.cons (t := 13) rfl <| .cons (t := 7) rfl <| SubK.nil _) (.cons (t := 1) rfl <| .cons (t := 2) rfl <| .cons (t := 11) rfl <| .cons (t := 12) rfl <| SubK.nil _) qD qD qF
  · try simp only [decide_eq_true_eq, decide_eq_false_iff_not, Bool.not_eq_true', Bool.not_eq_false', Bool.and_eq_true, Bool.or_eq_true] at h14
    obtain rfl : n = i := by omega
    rw [List.take_of_length_le (by omega)] at hl7
    rw [List.take_of_length_le (by omega)]
    refine T.exit ?_
    refine T.thenX ?_
    refine T.thenX ?_
    refine T.blkX ?_
    refine T.thenN ?_
    refine T.seq ?_
    refine T.region ?_
    refine L.move rfl rfl ?_
    refine L.assign rfl rfl ?_
    refine L.nil ?_
    refine T.thenN ?_
    refine T.ret ?_
    refine T.ownRsl (rows := ((l.filter (fun x => !isK k m x))).map poR) qP ?_
    exact T.ret1 rfl rfl ⟨_, _, _, rfl, hl7, rfl, rfl⟩ qD qF
set_option maxHeartbeats 400000 in
theorem rexp_spec {a : Option Addr} {n c : Nat} {l : List PO} {now : Int} (hn : n ≤ 1000000) : Spec Try.prog 18 [.slice a n c, .int .i64 now] [rsl 3 a n c (l.map poR)] [] (fun v D' M' => ∃ (a' : Option Addr) (n' c' : Nat), v = .slice a' n' c' ∧ ((l.filter (fun x => decide (now < x.2.2))).length = n') ∧ D' = [rsl 3 a' n' c' ((l.filter (fun x => decide (now < x.2.2))).map poR)] ∧ M' = []) := by
  refine Spec.intro (n := 25) Try.func18 rfl rfl (by decide) (Nat.le_of_ble_eq_true rfl) rfl (fun _ => qA) (fun _ => qA) ?_
  intro σ D M
  refine T.rslLen2 (rows := l.map poR) qM (fun hpl hpc => ?_)
  rw [List.length_map] at hpl
  
  refine T.seq ?_
  refine T.region ?_
  refine L.assign rfl rfl ?_
  refine L.nil ?_
  refine T.thenN ?_
  refine T.seq ?_
  refine T.region ?_
  refine L.buildSlice rfl bs40 (by decide) (BP.doneE (out := []) rfl) (fun b8 => ?_)
  refine L.toOwn (len := 0) qP (rows := ((l.take 0).filter (fun x => decide (now < x.2.2))).map poR) (sz := 3) (by rfl) rfl (by simp) ?_
  refine L.assign rfl rfl ?_
  refine L.nil ?_
  refine T.thenN ?_
  refine T.seq ?_
  refine T.seq ?_
  refine T.region ?_
  refine L.move rfl rfl ?_
  refine L.lenSl rfl Try.underlying40 rfl ?_
  refine L.move rfl rfl ?_
  refine L.nil ?_
  refine T.thenN ?_
  refine T.block ?_
  refine T.loop (fun K' D' M' μ => ∃ (i n7 c7 : Nat) (a7 : Option Addr), (i ≤ n ∧ ((l.take i).filter (fun x => decide (now < x.2.2))).length = n7) ∧ K' = [(11, .int .i64 (i : Int)), (5, .slice a7 n7 c7)] ∧ D' = [] ∧ M' = [own 3 52 a7 n7 c7 ((((l.take i).filter (fun x => decide (now < x.2.2)))).map poR)] ∧ μ = n - i) (.cons (t := 1) rfl <| .cons (t := 9) rfl <| .cons (t := 10) rfl <| SubK.nil _) (⟨0, 0, _, _, ⟨Nat.zero_le _, rfl⟩, rfl, rfl, rfl, rfl⟩) (.cons (t := 11) rfl <| .cons (t := 5) rfl <| SubK.nil _) qD qS ?_
  rintro K1 D1 M1 m1 ⟨i, n7, c7, a7, ⟨hi, hl7⟩, rfl, rfl, rfl, rfl⟩
  refine T.norm3 qA qA qA ?_
  refine T.seq ?_
  refine T.region ?_
  refine L.ltI rfl rfl rfl ?_
  refine L.nil ?_
  refine T.thenN ?_
  refine T.seq ?_
  refine T.cond rfl (fun h12 => ?_) (fun h12 => ?_)
  · try simp only [decide_eq_true_eq, decide_eq_false_iff_not, Bool.not_eq_true', Bool.not_eq_false', Bool.and_eq_true, Bool.or_eq_true] at h12
    refine T.skip ?_
    refine T.thenN ?_
    refine T.seq ?_
    refine T.block ?_
    refine T.seq ?_
    have hgi : l[i]? = some (gd l i) := gd_get (by omega)
    obtain ⟨x, hx_⟩ : ∃ z, z = gd l i := ⟨_, rfl⟩
    rw [← hx_] at hgi
    clear hx_
    have hgr : (l.map poR)[i]? = some (poR x) := map_get hgi
    have hfl : (((l.take i).filter (fun x => decide (now < x.2.2)))).length ≤ i := Nat.le_trans (List.length_filter_le _ _) (by rw [List.length_take]; omega)
    refine T.region ?_
    refine L.idx (i := i) rfl Try.underlying40 sz52 rfl rfl qM (by first | rfl | omega | (simp; done)) qG (fun b13 o13 => ?_)
    refine L.loadA rfl ag52 rfl (CellsN.ofD qM (poR_len _)) ?_
    refine L.alloc rfl ze52 (fun b7 => ?_)
    refine L.storeA ag52 rfl rfl qL qO qU qW ?_
    refine L.nil ?_
    refine T.freeze (A := cl b7 52 (poR x)) qP ?_
    refine T.thenN ?_
    refine T.seq ?_
    refine T.region ?_
    first | refine L.field0 rfl fo52_2 rfl ?_ | refine L.field rfl fo52_2 rfl ?_
    refine L.load rfl sc3 rfl qC ?_
    refine L.move rfl rfl ?_
    refine L.gtI rfl rfl rfl ?_
    refine L.nil ?_
    refine T.thenN ?_
    refine T.cond rfl (fun h18 => ?_) (fun h18 => ?_)
    · try simp only [decide_eq_true_eq, decide_eq_false_iff_not, Bool.not_eq_true', Bool.not_eq_false', Bool.and_eq_true, Bool.or_eq_true] at h18
      have hfs : ((l.take (i + 1)).filter (fun x => decide (now < x.2.2))) = ((l.take i).filter (fun x => decide (now < x.2.2))) ++ [x] := by rw [List.take_add_one, hgi, List.filter_append]; simp only [Option.toList_some, List.filter_cons, List.filter_nil]; rw [if_pos (decide_eq_true (by omega))]
      refine T.region ?_
      refine L.move rfl rfl ?_
      refine L.loadA rfl ag52 rfl (CellsN.ofF qM (AtN.all (poR_len x))) ?_
      refine L.buildSlice rfl bs40 (by decide) (BP.agg rfl rfl (by first | with_reducible assumption | (simp; done) | (simp only [List.length_map]; with_reducible assumption) | (simp [*]; done) | rfl) (Nat.le_of_ble_eq_true rfl) qR <| BP.doneE (out := []) rfl) (fun b21 => ?_)
      refine L.append1 rfl Try.underlying40 el52 rfl rfl qP qM rfl qO1 qI qI (fun a22 c22 => ?_)
      refine L.assign rfl rfl ?_
      refine L.nil ?_
      refine T.blkN ?_
      refine T.thenN ?_
      refine T.region ?_
      refine L.addN rfl rfl rfl (by omega) ?_
      refine L.move rfl rfl ?_
      refine L.nil ?_
      refine T.thenN ?_
      refine T.ownEq (sz := 3) _ ((((l.take (i + 1)).filter (fun x => decide (now < x.2.2)))).map poR) qP (by rw [hfs, List.map_append]; rfl) ?_
      exact T.back ⟨i + 1, n7 + 1, _, _, ⟨by omega, by rw [hfs, List.length_append, hl7]; rfl⟩, rfl, rfl, rfl, rfl⟩ qI (.cons (t := 11) rfl <| .cons (t := 5) rfl <| SubK.nil _) (.cons (t := 1) rfl <| .cons (t := 9) rfl <| .cons (t := 10) rfl <| SubK.nil _) qD qD qF
    · try simp only [decide_eq_true_eq, decide_eq_false_iff_not, Bool.not_eq_true', Bool.not_eq_false', Bool.and_eq_true, Bool.or_eq_true] at h18
      have hfs : ((l.take (i + 1)).filter (fun x => decide (now < x.2.2))) = ((l.take i).filter (fun x => decide (now < x.2.2))) := by rw [List.take_add_one, hgi, List.filter_append]; simp only [Option.toList_some, List.filter_cons, List.filter_nil]; rw [if_neg (by rw [decide_eq_false (by omega)]; decide), List.append_nil]
      refine T.skip ?_
      refine T.blkN ?_
      refine T.thenN ?_
      refine T.region ?_
      refine L.addN rfl rfl rfl (by omega) ?_
      refine L.move rfl rfl ?_
      refine L.nil ?_
      refine T.thenN ?_
      refine T.ownEq (sz := 3) _ ((((l.take (i + 1)).filter (fun x => decide (now < x.2.2)))).map poR) qP (by rw [hfs]) ?_
      exact T.back ⟨i + 1, n7, _, _, ⟨by omega, by rw [hfs]; exact hl7⟩, rfl, rfl, rfl, rfl⟩ qI (.cons (t := 11) rfl <| .cons (t := 5) rfl <| SubK.nil _) (.cons (t := 1) rfl <| .cons (t := 9) rfl <| .cons (t := 10) rfl <| SubK.nil _) qD qD qF
  · try simp only [decide_eq_true_eq, decide_eq_false_iff_not, Bool.not_eq_true', Bool.not_eq_false', Bool.and_eq_true, Bool.or_eq_true] at h12
    obtain rfl : n = i := by omega
    rw [List.take_of_length_le (by omega)] at hl7
    rw [List.take_of_length_le (by omega)]
    refine T.exit ?_
    refine T.thenX ?_
    refine T.thenX ?_
    refine T.blkX ?_
    refine T.thenN ?_
    refine T.seq ?_
    refine T.region ?_
    refine L.move rfl rfl ?_
    refine L.assign rfl rfl ?_
    refine L.nil ?_
    refine T.thenN ?_
    refine T.ret ?_
    refine T.ownRsl (rows := ((l.filter (fun x => decide (now < x.2.2)))).map poR) qP ?_
    exact T.ret1 rfl rfl ⟨_, _, _, rfl, hl7, rfl, rfl⟩ qD qF
end Cv
