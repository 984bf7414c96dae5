/-
  The walks: what is over goes, in general.
-/
import Derived.Test.YtfkpgkgjamaoaaaRa21
import Derived.Test.YtfkpgkgjamaoaaaProg
import Derived.KernelRfl
set_option linter.unusedVariables false
set_option linter.unusedSimpArgs false
set_option linter.unusedSectionVars false
set_option maxRecDepth 10000
namespace Cv
open Go Go.Proofs

set_option maxHeartbeats 400000 in
theorem delg_spec {m g : Nat} {caps : List Value} {φ : Asn} {p : Int → Int → Bool} {row : Row21} (hp : ∀ x y : Int, Spec Try.prog g ([.int .i64 x, .int .i64 y] ++ caps) [φ] [] (fun u D' M' => u = .bool (p x y) ∧ D' = [] ∧ M' = [])) : Spec Try.prog 25 [.map (some m), fnV g caps] [φ] [mp m iK iK row] (fun v D' M' => v = .tuple #[] ∧ D' = [] ∧ M' = [mp m iK iK (row.filter fun e => !p e.1 e.2)]) := by
  refine Spec.intro (n := 19) Try.func25 rfl rfl (by decide) (Nat.le_of_ble_eq_true rfl) rfl (fun _ => qA) (fun _ => qA) ?_
  intro σ D M
  refine T.mpNodup (kenc := iK) (venc := iK) qM (fun hnd => ?_)
  refine T.seq ?_
  refine T.region ?_
  refine L.move rfl rfl ?_
  refine L.range (kenc := iK) (venc := iK) rfl Try.underlying32 rfl qP (fun it => ?_)
  refine L.nil ?_
  refine T.thenN ?_
  refine T.block ?_
  refine T.eqv qP (show mpi m it iK iK (row) (row.map Prod.fst) none = mpi m it iK iK (restG p row (row.map Prod.fst)) (row.map Prod.fst) none from by rw [restG_0]) ?_
  refine T.loop (fun K' D' M' μ => ∃ (rest : List Int) (cur : Option Int), (rest.Nodup) ∧ K' = [] ∧ D' = [] ∧ M' = [mpi m it iK iK (restG p row rest) rest cur] ∧ μ = rest.length) (.cons (t := 0) rfl <| .cons (t := 1) rfl <| .cons (t := 7) rfl <| SubK.nil _) (⟨row.map Prod.fst, none, hnd, rfl, rfl, rfl, rfl⟩) (SubK.nil _) qD qS ?_
  rintro K1 D1 M1 m1 ⟨rest, cur, hrn, rfl, rfl, rfl, rfl⟩
  refine T.norm3 qA qA qA ?_
  refine T.seq ?_
  refine T.region ?_
  refine L.next rfl rfl qP (fun hre => ?_) (fun k v rs hpe hkv => ?_)
  · skip
    skip
    refine L.extract rfl rfl rfl ?_
    refine L.nil ?_
    refine T.thenN ?_
    refine T.seq ?_
    refine T.condF rfl rfl ?_
    refine T.exit ?_
    refine T.thenX ?_
    refine T.thenX ?_
    refine T.blkX ?_
    subst hre
    refine T.mpiMp qP ?_
    refine T.eqv qP (show mp m iK iK (restG p row []) = mp m iK iK (row.filter fun e => !p e.1 e.2) from by rw [restG_fin]) ?_
    exact T.retN (by simp) rfl ⟨rfl, rfl, rfl⟩ qD qF
  · skip
    skip
    refine L.extract rfl rfl rfl ?_
    refine L.nil ?_
    refine T.thenN ?_
    refine T.seq ?_
    refine T.condT rfl rfl ?_
    refine T.skip ?_
    refine T.thenN ?_
    refine T.block ?_
    refine T.seq ?_
    refine T.region ?_
    refine L.entry (ent_inj iK_inj (restG_nd hnd) hkv) rfl rfl qM hkv ?_
    refine L.extract rfl rfl rfl ?_
    refine L.extract rfl rfl rfl ?_
    refine L.assign rfl rfl ?_
    refine L.assign rfl rfl ?_
    refine L.nil ?_
    refine T.thenN ?_
    refine T.seq ?_
    refine T.region ?_
    refine L.move rfl rfl ?_
    refine L.move rfl rfl ?_
    refine L.move rfl rfl ?_
    refine L.callVF rfl rfl (evs.cons rfl <| evs.cons rfl <| evs.nil) qD qS (hp k v) (by rintro u D1 M1 ⟨rfl, rfl, rfl⟩; exact ⟨rfl, _, qA, qF⟩) ?_
    refine L.nil ?_
    refine T.thenN ?_
    refine T.cond rfl (fun h16 => ?_) (fun h16 => ?_)
    · try simp only [decide_eq_true_eq, decide_eq_false_iff_not, Bool.not_eq_true', Bool.not_eq_false', Bool.and_eq_true, Bool.or_eq_true] at h16
      refine T.region ?_
      refine L.move rfl rfl ?_
      refine L.move rfl rfl ?_
      refine L.deleteI (kenc := iK) (venc := iK) (l := restG p row rest) (k := k) (v0 := v) Try.underlying32 kt3 rfl rfl (look_of_mem (restG_nd hnd) hkv) (rest_nd hrn hpe).2 qP ?_
      refine L.nil ?_
      refine T.blkN ?_
      refine T.thenN ?_
      refine T.eqv qP (show mpi m it iK iK (del (restG p row rest) k) rs none = mpi m it iK iK (restG p row rs) rs none from by rw [restG_del hnd hrn hpe hkv h16]) ?_
      exact T.back ⟨rs, none, (rest_nd hrn hpe).1, rfl, rfl, rfl, rfl⟩ (by have := hpe.length_eq; simp at this; omega) (SubK.nil _) (.cons (t := 0) rfl <| .cons (t := 1) rfl <| .cons (t := 7) rfl <| SubK.nil _) qD qD qF
    · try simp only [decide_eq_true_eq, decide_eq_false_iff_not, Bool.not_eq_true', Bool.not_eq_false', Bool.and_eq_true, Bool.or_eq_true] at h16
      refine T.skip ?_
      refine T.blkN ?_
      refine T.thenN ?_
      refine T.eqv qP (show mpi m it iK iK (restG p row rest) rs (some k) = mpi m it iK iK (restG p row rs) rs (some k) from by rw [restG_keep hnd hpe hkv h16]) ?_
      exact T.back ⟨rs, some k, (rest_nd hrn hpe).1, rfl, rfl, rfl, rfl⟩ (by have := hpe.length_eq; simp at this; omega) (SubK.nil _) (.cons (t := 0) rfl <| .cons (t := 1) rfl <| .cons (t := 7) rfl <| SubK.nil _) qD qD qF
set_option maxHeartbeats 400000 in
theorem expG_spec0 {b tm : Nat} {ml : ML} {now : Int}  : Spec Try.prog 13 [.pointer (some ⟨b, 0, none⟩), .int .i64 now] [cl b 57 [.map (some tm)]] [mp tm aK rV2 ml, each rA2 ml] (fun v D' M' => v = .tuple #[] ∧ D' = [] ∧ M' = [tbA tm (expT (er ml) now)]) := by
  refine Spec.intro (n := 27) Try.func13 rfl rfl (by decide) (Nat.le_of_ble_eq_true rfl) rfl (fun _ => qA) (fun _ => qA) ?_
  intro σ D M
  refine T.mpNodup (kenc := aK) (venc := rV2) qM (fun hnd => ?_)
  refine T.seq ?_
  refine T.region ?_
  refine L.box rfl rfl rfl (fun b3 => ?_)
  refine L.nil ?_
  refine T.freeze (A := cl b3 3 [.int .i64 now]) qP ?_
  refine T.thenN ?_
  refine T.seq ?_
  refine T.region ?_
  refine L.move rfl rfl ?_
  refine L.nilCheck rfl rfl ?_
  first | refine L.field0 rfl fo57_0 rfl ?_ | refine L.field rfl fo57_0 rfl ?_
  refine L.load rfl sc55 rfl qC ?_
  refine L.range (kenc := aK) (venc := rV2) rfl Try.underlying55 rfl qP (fun it => ?_)
  refine L.nil ?_
  refine T.thenN ?_
  refine T.block ?_
  refine T.eqv qP (show mpi tm it aK rV2 ml (ml.map Prod.fst) none = mpi tm it aK rV2 (exM now ml (ml.map Prod.fst)) (ml.map Prod.fst) none from by rw [exM_0]) ?_
  refine T.eqv qP (show each rA2 ml = each rA2 (exM now ml (ml.map Prod.fst)) from by rw [exM_0]) ?_
  refine T.loop (fun K' D' M' μ => ∃ (rest : List ID32) (cur : Option ID32), (rest.Nodup) ∧ K' = [] ∧ D' = [] ∧ M' = [mpi tm it aK rV2 (exM now ml rest) rest cur, each rA2 (exM now ml rest)] ∧ μ = rest.length) (.cons (t := 0) rfl <| .cons (t := 3) rfl <| .cons (t := 10) rfl <| SubK.nil _) (⟨ml.map Prod.fst, none, hnd, rfl, rfl, rfl, rfl⟩) (SubK.nil _) qD qS ?_
  rintro K1 D1 M1 m1 ⟨rest, cur, hrn, rfl, rfl, rfl, rfl⟩
  refine T.norm3 qA qA qA ?_
  refine T.seq ?_
  refine T.region ?_
  refine L.next rfl rfl qP (fun hre => ?_) (fun k v rs hpe hkv => ?_)
  · skip
    skip
    refine L.extract rfl rfl rfl ?_
    refine L.nil ?_
    refine T.thenN ?_
    refine T.seq ?_
    refine T.condF rfl rfl ?_
    refine T.exit ?_
    refine T.thenX ?_
    refine T.thenX ?_
    refine T.blkX ?_
    subst hre
    refine T.mpiMp qP ?_
    refine T.tbShut (t := expT (er ml) now) (ml := exM now ml []) exM_fin qS ?_
    exact T.retN (by simp) rfl ⟨rfl, rfl, rfl⟩ qD qF
  · skip
    obtain ⟨rb, row⟩ := v
    refine L.extract rfl rfl rfl ?_
    refine L.nil ?_
    refine T.thenN ?_
    refine T.seq ?_
    refine T.condT rfl rfl ?_
    refine T.skip ?_
    refine T.thenN ?_
    refine T.block ?_
    refine T.seq ?_
    refine T.region ?_
    refine L.entry (ent_inj aK_inj (exM_nd hnd) hkv) rfl rfl qM hkv ?_
    have hk32 := k.2
    refine L.extract rfl rfl rfl ?_
    refine L.extract rfl rfl rfl ?_
    refine L.alloc rfl ze28 (fun b4 => ?_)
    refine L.storeA ag28 rfl rfl qL qO qU qW ?_
    refine L.assign rfl rfl ?_
    refine L.nil ?_
    refine T.freeze (A := cl b4 28 (k.1.map Y)) qP ?_
    have hlk : look (exM now ml rest) k = some (rb, row) := look_of_mem (exM_nd hnd) hkv
    have hkm := exM_mem (hpe.mem_iff.2 (List.mem_cons_self ..)) hkv
    refine T.rowOpen hlk qP ?_
    refine T.thenN ?_
    refine T.seq ?_
    refine T.region ?_
    refine L.move rfl rfl ?_
    refine L.makeFunc rfl (evs.cons rfl <| evs.nil) ?_
    refine L.call rfl (evs.cons rfl <| evs.cons rfl <| evs.nil) qD qS (delg_spec (φ := cl b3 3 [.int .i64 now]) (p := fun _ y => decide (y ≤ now)) (caps := [.pointer (some ⟨b3, 0, none⟩)]) (row := row) (fun x y => exp1_spec x y)) ?_
    rintro _ _ _ ⟨rfl, rfl, rfl⟩
    refine L.norm qA qA ?_
    refine L.nil ?_
    refine T.thenN ?_
    refine T.seq ?_
    refine T.region ?_
    refine L.move rfl rfl ?_
    refine L.lenMap (l := (row.filter fun e => !decide (e.2 ≤ now))) rfl Try.underlying32 rfl qM ?_
    refine L.eqI rfl rfl rfl ?_
    refine L.nil ?_
    refine T.thenN ?_
    refine T.cond rfl (fun h21 => ?_) (fun h21 => ?_)
    · try simp only [decide_eq_true_eq, decide_eq_false_iff_not, Bool.not_eq_true', Bool.not_eq_false', Bool.and_eq_true, Bool.or_eq_true] at h21
      have hfe : fRow now row = [] := List.length_eq_zero_iff.1 (by unfold fRow; omega)
      refine T.regionA (clsL [1, 1, 1, 1, 1, 2]) (by kernel_rfl) ?_
      refine A.takeP (i := 0) rfl rfl rfl rfl (by kernel_rfl) (by kernel_rfl) (by kernel_rfl) rfl qD ?_
      refine L.move rfl rfl ?_
      refine A.took ?_
      refine A.nilCheckP (i := 1) rfl rfl (by kernel_rfl) (by kernel_rfl) (by kernel_rfl) rfl qD rfl ?_
      refine A.takeP (i := 2) rfl rfl rfl rfl (by kernel_rfl) (by kernel_rfl) (by kernel_rfl) rfl qD ?_
      first | refine L.field0 rfl fo57_0 rfl ?_ | refine L.field rfl fo57_0 rfl ?_
      refine A.took ?_
      refine A.takeP (i := 3) rfl rfl rfl rfl (by kernel_rfl) (by kernel_rfl) (by kernel_rfl) rfl qD ?_
      refine L.load rfl sc55 rfl qC ?_
      refine A.took ?_
      refine A.takeP (i := 4) rfl rfl rfl rfl (by kernel_rfl) (by kernel_rfl) (by kernel_rfl) rfl qD ?_
      refine L.loadA rfl ag28 rfl qN ?_
      refine A.took ?_
      refine A.branch (is := [5]) (by kernel_rfl) (by decide) (Each.cons rfl ?_ <| Each.nil) 
      refine L.deleteI (kenc := aK) (venc := rV2) (l := (exM now ml rest)) (k := k) (v0 := (rb, row)) Try.underlying55 (keyT_arr Try.underlying28 Try.underlying5 sc5) rfl rfl hlk (rest_nd hrn hpe).2 qP ?_
      refine A.backT rfl qD ?_
      refine A.done (by kernel_rfl) ?_
      refine T.blkN ?_
      refine T.thenN ?_
      refine T.eqv qP (show mpi tm it aK rV2 (del (exM now ml rest) k) rs none = mpi tm it aK rV2 (exM now ml rs) rs none from by rw [exM_del hnd hrn hpe hkm hfe]) ?_
      refine T.eqv qP (show each rA2 (del (exM now ml rest) k) = each rA2 (exM now ml rs) from by rw [exM_del hnd hrn hpe hkm hfe]) ?_
      exact T.back ⟨rs, none, (rest_nd hrn hpe).1, rfl, rfl, rfl, rfl⟩ (by have := hpe.length_eq; simp at this; omega) (SubK.nil _) (.cons (t := 0) rfl <| .cons (t := 3) rfl <| .cons (t := 10) rfl <| SubK.nil _) qD qD qF
    · try simp only [decide_eq_true_eq, decide_eq_false_iff_not, Bool.not_eq_true', Bool.not_eq_false', Bool.and_eq_true, Bool.or_eq_true] at h21
      have hfe : fRow now row ≠ [] := fun q => h21 (by have q2 := congrArg List.length q; unfold fRow at q2; rw [q2]; rfl)
      refine T.eqv qP (show mp rb iK iK (row.filter fun e => !decide (e.2 ≤ now)) = rA2 (k, (rb, fRow now row)) from rfl) ?_
      refine T.eachShut (f := rA2) (rb, fRow now row) hlk qS ?_
      refine T.eqv qP (show each rA2 (put (exM now ml rest) k (rb, fRow now row)) = each rA2 (exM now ml rs) from by rw [exM_put hnd hrn hpe hkm hlk hfe]) ?_
      refine T.mpiSame (l' := (exM now ml rs)) qP (by rw [← exM_put hnd hrn hpe hkm hlk hfe, put_venc (venc := rV2) (u := (rb, fRow now row)) hlk rfl]) ?_
      refine T.skip ?_
      refine T.blkN ?_
      refine T.thenN ?_
      exact T.back ⟨rs, some k, (rest_nd hrn hpe).1, rfl, rfl, rfl, rfl⟩ (by have := hpe.length_eq; simp at this; omega) (SubK.nil _) (.cons (t := 0) rfl <| .cons (t := 3) rfl <| .cons (t := 10) rfl <| SubK.nil _) qD qD qF
theorem expG_spec {b tm : Nat} {t : Tb} {now : Int} : Spec Try.prog 13 [.pointer (some ⟨b, 0, none⟩), .int .i64 now] [cl b 57 [.map (some tm)]] [tbA tm t] (fun v D' M' => v = .tuple #[] ∧ D' = [] ∧ M' = [tbA tm (expT t now)]) :=
  Spec.tb (IsFn.of Try.func13 rfl (by decide)) fun ml hm => by
    subst hm
    exact expG_spec0
end Cv
