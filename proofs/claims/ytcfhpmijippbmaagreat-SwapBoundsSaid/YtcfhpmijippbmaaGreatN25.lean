/-
  The walks: whom one may ask, the best first.
-/
import Derived.Test.YtcfhpmijippbmaaGreatM25
import Derived.Test.YtcfhpmijippbmaaGreatProg
import Derived.KernelRfl
set_option linter.unusedVariables false
set_option linter.unusedSimpArgs false
set_option linter.unusedSectionVars false
set_option maxRecDepth 10000
namespace Cv
open Go Go.Proofs
def cfB (F : Int → Mind) (x y : Int) : Int := orF [cmpI (F y).1 (F x).1, cmpI x y]
theorem cfB_lt {F : Int → Mind} {x y : Int} : cfB F x y < 0 ↔ (F y).1 < (F x).1 ∨ ((F y).1 = (F x).1 ∧ x < y) := by
  unfold cfB cmpI
  simp only [orF]
  by_cases h1 : (F y).1 < (F x).1
  · simp [h1]
  · by_cases h2 : (F x).1 < (F y).1
    · simp [h1, h2]; omega
    · have e : (F y).1 = (F x).1 := by omega
      by_cases h3 : x < y
      · simp [h1, h2, e, h3]
      · by_cases h4 : y < x <;> simp [h1, h2, e, h3, h4]
theorem cfB_swo {F : Int → Mind} : SWOc (cfB F) where
  irrefl x := by rw [cfB_lt]; omega
  asym x y := by rw [cfB_lt, cfB_lt]; omega
  ntrans x y z := by rw [cfB_lt, cfB_lt, cfB_lt]; omega
theorem updM_at {F : Int → Mind} {n : Int} {m : Mind} : updM F n m n = m := by simp [updM]
theorem updM_ne {F : Int → Mind} {n k : Int} {m : Mind} (h : k ≠ n) : updM F n m k = F k := by simp [updM, h]
theorem sc54 : Sc Tryz.prog 54 := fun w => ⟨by kernel_rfl, by kernel_rfl⟩
set_option maxHeartbeats 400000 in
theorem sort1_spec {b b3 b4 : Nat} {n now : Int} {F : Int → Mind}  : Spec Tryz.prog 82 [.int .i64 n, .pointer (some ⟨b3, 0, none⟩), .pointer (some ⟨b4, 0, none⟩)] [] [cl b3 54 [.pointer (some ⟨b, 0, none⟩)], cl b4 3 [.int .i64 now], bookA b F] (fun v D' M' => v = .bool (!mayB F n now) ∧ D' = [] ∧ M' = [cl b3 54 [.pointer (some ⟨b, 0, none⟩)], cl b4 3 [.int .i64 now], bookA b F]) := by
  refine Spec.intro (n := 10) Tryz.func82 rfl rfl (by decide) (Nat.le_of_ble_eq_true rfl) rfl (fun _ => qA) (fun _ => qA) ?_
  intro σ D M
  refine T.seq ?_
  refine T.region ?_
  refine L.assign rfl rfl ?_
  refine L.nil ?_
  refine T.thenN ?_
  refine T.seq ?_
  refine T.region ?_
  refine L.load rfl sc54 rfl qC ?_
  refine L.move rfl rfl ?_
  refine L.load rfl sc3 rfl qC ?_
  refine L.callF rfl (evs.cons rfl <| evs.cons rfl <| evs.cons rfl <| evs.nil) qD qS (may_spec ) (by rintro u D1 M1 ⟨rfl, rfl, rfl⟩; exact ⟨rfl, _, qA, qF⟩) ?_
  refine L.notB rfl rfl ?_
  refine L.assign rfl rfl ?_
  refine L.nil ?_
  refine T.thenN ?_
  refine T.ret ?_
  exact T.ret1 rfl rfl ⟨rfl, rfl, rfl⟩ qD qF
set_option maxHeartbeats 400000 in
theorem sort2_spec {b b3 : Nat} {x y : Int} {F : Int → Mind}  : Spec Tryz.prog 84 [.int .i64 x, .int .i64 y, .pointer (some ⟨b3, 0, none⟩)] [] [cl b3 54 [.pointer (some ⟨b, 0, none⟩)], bookA b F] (fun v D' M' => v = .int .i64 (cfB F x y) ∧ D' = [] ∧ M' = [cl b3 54 [.pointer (some ⟨b, 0, none⟩)], bookA b F]) := by
  refine Spec.intro (n := 18) Tryz.func84 rfl rfl (by decide) (Nat.le_of_ble_eq_true rfl) rfl (fun _ => qA) (fun _ => qA) ?_
  intro σ D M
  refine T.seq ?_
  refine T.region ?_
  refine L.assign rfl rfl ?_
  refine L.nil ?_
  refine T.thenN ?_
  refine T.seq ?_
  refine T.regionA (clsL [0, 1, 0, 0, 1, 2, 2, 1, 1, 2, 2, 2, 1]) (by kernel_rfl) ?_
  refine A.takeP (i := 1) rfl rfl rfl rfl (by kernel_rfl) (by kernel_rfl) (by kernel_rfl) rfl qD ?_
  refine L.move rfl rfl ?_
  refine A.took ?_
  refine A.takeP (i := 4) rfl rfl rfl rfl (by kernel_rfl) (by kernel_rfl) (by kernel_rfl) rfl qD ?_
  refine L.move rfl rfl ?_
  refine A.took ?_
  refine A.takeP (i := 7) rfl rfl rfl rfl (by kernel_rfl) (by kernel_rfl) (by kernel_rfl) rfl qD ?_
  refine L.move rfl rfl ?_
  refine A.took ?_
  refine A.takeP (i := 8) rfl rfl rfl rfl (by kernel_rfl) (by kernel_rfl) (by kernel_rfl) rfl qD ?_
  refine L.move rfl rfl ?_
  refine A.took ?_
  refine A.take (i := 0) rfl rfl rfl rfl (by kernel_rfl) (by kernel_rfl) (by kernel_rfl) (by kernel_rfl) rfl qD qF ?_
  refine L.load rfl sc54 rfl qC ?_
  refine A.took ?_
  refine A.take (i := 3) rfl rfl rfl rfl (by kernel_rfl) (by kernel_rfl) (by kernel_rfl) (by kernel_rfl) rfl qD qF ?_
  refine L.load rfl sc54 rfl qC ?_
  refine A.took ?_
  refine A.branch (is := [2]) (by kernel_rfl) (by decide) (Each.cons rfl ?_ <| Each.nil) 
  refine L.callF rfl (evs.cons rfl <| evs.cons rfl <| evs.nil) qD qS (score_spec ) (by rintro u D1 M1 ⟨rfl, rfl, rfl⟩; exact ⟨rfl, _, qA, qF⟩) ?_
  refine A.back rfl qD qF ?_
  refine A.branch (is := [5]) (by kernel_rfl) (by decide) (Each.cons rfl ?_ <| Each.nil) 
  refine L.callF rfl (evs.cons rfl <| evs.cons rfl <| evs.nil) qD qS (score_spec ) (by rintro u D1 M1 ⟨rfl, rfl, rfl⟩; exact ⟨rfl, _, qA, qF⟩) ?_
  refine A.backT rfl qD ?_
  refine A.branch (is := [6]) (by kernel_rfl) (by decide) (Each.cons rfl ?_ <| Each.nil) 
  refine L.callF rfl (evs.cons rfl <| evs.cons rfl <| evs.nil) qD qS (compare_spec ) (by rintro u D1 M1 ⟨rfl, rfl, rfl⟩; exact ⟨rfl, _, qA, qF⟩) ?_
  refine A.backT rfl qD ?_
  refine A.branch (is := [9]) (by kernel_rfl) (by decide) (Each.cons rfl ?_ <| Each.nil) 
  refine L.callF rfl (evs.cons rfl <| evs.cons rfl <| evs.nil) qD qS (compare_spec ) (by rintro u D1 M1 ⟨rfl, rfl, rfl⟩; exact ⟨rfl, _, qA, qF⟩) ?_
  refine A.backT rfl qD ?_
  refine A.branch (is := [10]) (by kernel_rfl) (by decide) (Each.cons rfl ?_ <| Each.nil) 
  refine L.buildSlice rfl bs39 (by decide) (BP.one rfl rfl rfl <| BP.one rfl rfl rfl <| BP.doneE (out := []) rfl) (fun b16 => ?_)
  refine L.toOwn (len := 2) qP (rows := [cmpI (F y).1 (F x).1, cmpI x y].map e3) (sz := 1) (by rfl) rfl (by simp) ?_
  refine L.ownRsl qP ?_
  refine A.backT rfl qD ?_
  refine A.branch (is := [11]) (by kernel_rfl) (by decide) (Each.cons rfl ?_ <| Each.nil) 
  refine L.call rfl (evs.cons rfl <| evs.nil) qD qS (or_spec (xs := [cmpI (F y).1 (F x).1, cmpI x y]) (by omega)) ?_
  rintro _ _ _ ⟨rfl, rfl, rfl⟩
  refine L.norm qA qA ?_
  refine A.backT rfl qD ?_
  refine A.takeP (i := 12) rfl rfl rfl rfl (by kernel_rfl) (by kernel_rfl) (by kernel_rfl) rfl qD ?_
  refine L.assign rfl rfl ?_
  refine A.took ?_
  refine A.done (by kernel_rfl) ?_
  refine T.thenN ?_
  refine T.ret ?_
  exact T.ret1 rfl rfl ⟨rfl, rfl, rfl⟩ qD qF
set_option maxHeartbeats 400000 in
theorem bsort_spec {b len cap : Nat} {a : Option Addr} {xs : List Int} {now : Int} {F : Int → Mind} (hb : len ≤ 12) : Spec Tryz.prog 61 [.pointer (some ⟨b, 0, none⟩), .int .i64 now, .slice a len cap] [rsl 1 a len cap (xs.map e3)] [bookA b F] (fun v D' M' => ∃ (a' : Option Addr) (cap' : Nat) (ys : List Int), v = .slice a' ys.length cap' ∧ (ys.Perm (xs.filter (fun x => mayB F x now))) ∧ (SortTo (cfB F) ys ys.length) ∧ D' = [] ∧ M' = [own 1 3 a' ys.length cap' (ys.map e3), bookA b F]) := by
  refine Spec.intro (n := 15) Tryz.func61 rfl rfl (by decide) (Nat.le_of_ble_eq_true rfl) rfl (fun _ => qA) (fun _ => qA) ?_
  intro σ D M
  refine T.rslLen2 qM (fun hl hc => ?_)
  rw [List.length_map] at hl
  refine T.seq ?_
  refine T.region ?_
  refine L.box rfl rfl rfl (fun b3 => ?_)
  refine L.box rfl rfl rfl (fun b4 => ?_)
  refine L.assign rfl rfl ?_
  refine L.nil ?_
  refine T.thenN ?_
  refine T.seq ?_
  refine T.region ?_
  refine L.move rfl rfl ?_
  refine L.call rfl (evs.cons rfl <| evs.nil) qD qS (clone_spec (by omega)) ?_
  rintro _ _ _ ⟨ka, kl, kc, rfl, hkl, rfl, rfl⟩
  refine L.norm qA qA ?_
  subst hkl
  refine L.makeFunc rfl (evs.cons rfl <| evs.cons rfl <| evs.nil) ?_
  refine L.foldAs (all [cl b3 54 [.pointer (some ⟨b, 0, none⟩)], cl b4 3 [.int .i64 now], bookA b F]) qS rfl ?_
  refine L.call rfl (evs.cons rfl <| evs.cons rfl <| evs.nil) qD qS (delf_spec (p := fun x => !mayB F x now) (g := 82) (caps := [.pointer (some ⟨b3, 0, none⟩), .pointer (some ⟨b4, 0, none⟩)]) (Ac := all [cl b3 54 [.pointer (some ⟨b, 0, none⟩)], cl b4 3 [.int .i64 now], bookA b F]) (fun x => sort1_spec.all) (by omega)) ?_
  rintro _ _ _ ⟨da, dl, dc, rfl, rfl, rfl⟩
  refine L.norm qA qA ?_
  refine L.unfold [cl b3 54 [.pointer (some ⟨b, 0, none⟩)], cl b4 3 [.int .i64 now], bookA b F] qP rfl qA ?_
  refine L.assign rfl rfl ?_
  refine L.nil ?_
  refine T.ownEq _ ((xs.filter (fun x => mayB F x now)).map e3) qP (by simp) ?_
  refine T.ownLen qM (fun hfl _ => ?_)
  rw [List.length_map] at hfl
  have hfle := List.length_filter_le (fun x => mayB F x now) xs
  refine T.thenN ?_
  refine T.seq ?_
  refine T.region ?_
  refine L.move rfl rfl ?_
  refine L.makeFunc rfl (evs.cons rfl <| evs.nil) ?_
  refine L.foldAs (all [cl b3 54 [.pointer (some ⟨b, 0, none⟩)], bookA b F]) qS rfl ?_
  refine L.call rfl (evs.cons rfl <| evs.cons rfl <| evs.nil) qD qS (sortf_spec (cf := cfB F) (g := 84) (caps := [.pointer (some ⟨b3, 0, none⟩)]) (Ac := all [cl b3 54 [.pointer (some ⟨b, 0, none⟩)], bookA b F]) cfB_swo (fun x y => sort2_spec.all) (by omega)) ?_
  rintro _ _ _ ⟨ys, rfl, hp, hs, rfl, rfl⟩
  refine L.norm qA qA ?_
  refine L.unfold [cl b3 54 [.pointer (some ⟨b, 0, none⟩)], bookA b F] qP rfl qA ?_
  refine L.nil ?_
  have hyl := hp.length_eq
  obtain rfl : dl = ys.length := by omega
  refine T.thenN ?_
  refine T.seq ?_
  refine T.region ?_
  refine L.move rfl rfl ?_
  refine L.assign rfl rfl ?_
  refine L.nil ?_
  refine T.thenN ?_
  refine T.ret ?_
  exact T.ret1 rfl rfl ⟨_, _, ys, rfl, hp, hs, rfl, rfl⟩ qD qF
end Cv
