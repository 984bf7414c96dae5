/-
  The walks: SortStableFunc.
-/
import Derived.Test.YtcilkdnbbebjgaaGreatD05
import Derived.Test.YtcilkdnbbebjgaaGreatI05
import Derived.Test.YtcilkdnbbebjgaaGreatProg
import Derived.KernelRfl
set_option linter.unusedVariables false
set_option linter.unusedSimpArgs false
set_option linter.unusedSectionVars false
set_option maxRecDepth 10000
namespace Cv
open Go Go.Proofs

set_option maxHeartbeats 400000 in
theorem ins_spec {a : Option Addr} {len cap g : Nat} {caps : List Value} {cf : ET → ET → Int} {xs : List ET} (hC : Cmp cf) (hc : ∀ x y : ET, Spec Tryz.prog g ([.agg (eT x).toArray, .agg (eT y).toArray] ++ caps) [] [] (fun u D' M' => u = .int .i64 (cf x y) ∧ D' = [] ∧ M' = [])) {lo hi : Nat} (hb : len ≤ 1000000) (hlo : lo ≤ hi) (hhi : hi ≤ len) : Spec Tryz.prog 175 [.slice a len cap, .int .i64 (lo : Int), .int .i64 (hi : Int), fnV g caps] [] [own 4 142 a len cap ((xs).map eT)] (fun v D' M' => ∃ (ys : List ET), v = .tuple #[] ∧ (Kp cf xs ys) ∧ ((lo = 0 → hi = len → ∀ tag : ET → Nat, (∀ p q, p < q → q < xs.length → tag (gd xs p) < tag (gd xs q)) → Pw (Rt cf tag) ys len)) ∧ D' = [] ∧ M' = [own 4 142 a len cap ((ys).map eT)]) := by
 refine Spec.intro (n := 53) Tryz.func175 rfl rfl (by decide) (Nat.le_of_ble_eq_true rfl) rfl (fun _ => qA) (fun _ => qA) ?_
 intro σ D M
 refine T.ownLen qM (fun hl hcc => ?_)
 rw [List.length_map] at hl
 refine T.seq (T.region ?_)
 refine L.move rfl rfl ?_
 refine L.addN rfl rfl rfl (by omega) ?_
 rw [show (lo : Int) + 1 = ((lo + 1 : Nat) : Int) by omega]
 refine L.assign rfl rfl ?_
 refine L.nil ?_
 refine T.thenN (T.block ?_)
 refine T.loop (fun K' D' M' μ => ∃ (i : Nat) (ys : List ET), ((lo + 1 ≤ i ∧ (i ≤ hi ∨ i = lo + 1)) ∧ Kp cf xs ys ∧ (lo = 0 → InsO cf xs ys i)) ∧ K' = [(8, .int .i64 i)] ∧ D' = [] ∧ M' = [own 4 142 a len cap ((ys).map eT)] ∧ μ = hi - i) (.cons (t := 0) rfl <| .cons (t := 1) rfl <| .cons (t := 2) rfl <| .cons (t := 3) rfl <| SubK.nil _) (⟨lo + 1, xs, ⟨by omega, .refl _, fun h0 => by subst h0; exact InsO.zero xs⟩, rfl, rfl, rfl, rfl⟩) (.cons (t := 8) rfl <| SubK.nil _) qD qS ?_
 rintro K1 D1 M1 m1 ⟨i, ys, ⟨⟨hi1, hi2⟩, hk, hO⟩, rfl, rfl, rfl, rfl⟩
 refine T.norm3 qA qA qA ?_
 have hyl := hk.sm.1
 refine T.seq (T.seq (T.region ?_))
 refine L.move rfl rfl ?_
 refine L.move rfl rfl ?_
 refine L.ltI rfl rfl rfl ?_
 refine L.nil ?_
 refine T.thenN ?_
 refine T.cond rfl (fun h14 => ?_) (fun h14 => ?_)
 ·try simp only [dq] at h14
  refine T.ownNe qM (by omega) (fun b o ha => ?_)
  subst ha
  refine T.skip (T.thenN (T.seq (T.block (T.seq (T.region ?_)))))
  refine L.move rfl rfl ?_
  refine L.assign rfl rfl ?_
  refine L.nil ?_
  refine T.thenN (T.block ?_)
  refine T.loop (fun K' D' M' μ => ∃ (j : Nat) (zs : List ET), ((lo ≤ j ∧ j ≤ i) ∧ InsP cf xs zs i j ∧ (lo = 0 → InsJ cf xs zs i j)) ∧ K' = [(9, .int .i64 j)] ∧ D' = [] ∧ M' = [own 4 142 (some ⟨b, o, none⟩) len cap ((zs).map eT)] ∧ μ = 2 * j) (.cons (t := 0) rfl <| .cons (t := 1) rfl <| .cons (t := 2) rfl <| .cons (t := 3) rfl <| .cons (t := 8) rfl <| SubK.nil _) (⟨i, ys, ⟨by omega, InsP.zero hk, fun h0 => (hO h0).start (by omega)⟩, rfl, rfl, rfl, rfl⟩) (.cons (t := 9) rfl <| SubK.nil _) qD qS ?_
  rintro K1 D1 M1 m1 ⟨j, zs, ⟨⟨hj0, hj⟩, hJ, hJ0⟩, rfl, rfl, rfl, rfl⟩
  refine T.norm3 qA qA qA ?_
  have hzl := hJ.sm.1
  refine T.seq (T.seq ?_)
  refine T.regionQ qk qk ?_
  refine L.move rfl rfl ?_
  refine L.move rfl rfl ?_
  refine L.gtI rfl rfl rfl ?_
  refine L.move rfl rfl ?_
  refine L.part (t := 21) rfl (fun h1 => ?_) (fun h1 => ?_)
  ·try simp only [dq] at h1
   refine L.guardT (dj := 21) rfl rfl rfl ?_
   refine L.move rfl rfl ?_
   refine L.guardT (dj := 21) rfl rfl rfl ?_
   refine L.move rfl rfl ?_
   refine L.guardT (dj := 21) rfl rfl rfl ?_
   refine L.move rfl rfl ?_
   refine L.guardT (dj := 21) rfl rfl rfl ?_
   refine L.idxG (i := j) rfl Tryz.underlying22 sz142 rfl rfl (by first | rfl | omega | (simp; done)) qI ?_
   have hg1 : zs[j]? = some (gd zs j) := gd_get (by omega)
   refine L.guardT (dj := 21) rfl rfl rfl ?_
   refine L.loadA rfl ag142 rfl qN ?_
   refine L.guardT (dj := 21) rfl rfl rfl ?_
   refine L.move rfl rfl ?_
   refine L.guardT (dj := 21) rfl rfl rfl ?_
   refine L.move rfl rfl ?_
   refine L.guardT (dj := 21) rfl rfl rfl ?_
   refine L.subN rfl rfl rfl (by omega) ?_
   rw [show (j : Int) - 1 = ((j - 1 : Nat) : Int) by omega]
   refine L.guardT (dj := 21) rfl rfl rfl ?_
   refine L.idxG (i := j - 1) rfl Tryz.underlying22 sz142 rfl rfl (by first | rfl | omega | (simp; done)) qI ?_
   have hg2 : zs[j - 1]? = some (gd zs (j - 1)) := gd_get (by omega)
   refine L.guardT (dj := 21) rfl rfl rfl ?_
   refine L.loadA rfl ag142 rfl qN ?_
   refine L.guardT (dj := 21) rfl rfl rfl ?_
   refine L.callVF rfl rfl (evs.cons rfl <| evs.cons rfl <| evs.nil) qD qS (hc (gd zs j) (gd zs (j - 1))) (by rintro u D1 M1 ⟨rfl, rfl, rfl⟩; exact ⟨rfl, _, qA, qF⟩) ?_
   refine L.guardT (dj := 21) rfl rfl rfl ?_
   refine L.ltI rfl rfl rfl ?_
   refine L.pickT rfl rfl rfl ?_
   refine L.nilQ ?_
   refine T.thenN ?_
   refine T.cond rfl (fun h34 => ?_) (fun h34 => ?_)
   ·try simp only [dq] at h34
    refine T.skip (T.thenN (T.seq (T.block ?_)))
    have hg0 : zs[j]? = some (gd zs (j)) := gd_get (by omega)
    have hg1 : zs[j - 1]? = some (gd zs (j - 1)) := gd_get (by omega)
    refine T.regionA (clsL [1, 1, 1, 1, 1, 1, 1, 1, 1, 0, 1, 1, 1, 0, 1, 2, 1, 2]) qk ?_
    refine A.takeP (i := 0) rfl rfl rfl rfl qk qk qk rfl qD ?_
    refine L.move rfl rfl ?_
    refine A.took ?_
    refine A.takeP (i := 1) rfl rfl rfl rfl qk qk qk rfl qD ?_
    refine L.move rfl rfl ?_
    refine A.took ?_
    refine A.takeP (i := 2) rfl rfl rfl rfl qk qk qk rfl qD ?_
    refine L.move rfl rfl ?_
    refine A.took ?_
    refine A.takeP (i := 3) rfl rfl rfl rfl qk qk qk rfl qD ?_
    refine L.move rfl rfl ?_
    refine A.took ?_
    refine A.takeP (i := 4) rfl rfl rfl rfl qk qk qk rfl qD ?_
    refine L.subN rfl rfl rfl (by omega) ?_
    rw [show (j : Int) - 1 = ((j - 1 : Nat) : Int) by omega]
    refine A.took ?_
    refine A.takeP (i := 5) rfl rfl rfl rfl qk qk qk rfl qD ?_
    refine L.move rfl rfl ?_
    refine A.took ?_
    refine A.takeP (i := 6) rfl rfl rfl rfl qk qk qk rfl qD ?_
    refine L.move rfl rfl ?_
    refine A.took ?_
    refine A.takeP (i := 7) rfl rfl rfl rfl qk qk qk rfl qD ?_
    refine L.subN rfl rfl rfl (by omega) ?_
    rw [show (j : Int) - 1 = ((j - 1 : Nat) : Int) by omega]
    refine A.took ?_
    refine A.takeP (i := 8) rfl rfl rfl rfl qk qk qk rfl qD ?_
    refine L.idxG (i := j - 1) rfl Tryz.underlying22 sz142 rfl rfl (by first | rfl | omega | (simp; done)) qI ?_
    refine A.took ?_
    refine A.takeP (i := 10) rfl rfl rfl rfl qk qk qk rfl qD ?_
    refine L.move rfl rfl ?_
    refine A.took ?_
    refine A.takeP (i := 11) rfl rfl rfl rfl qk qk qk rfl qD ?_
    refine L.move rfl rfl ?_
    refine A.took ?_
    refine A.takeP (i := 12) rfl rfl rfl rfl qk qk qk rfl qD ?_
    refine L.idxG (i := j) rfl Tryz.underlying22 sz142 rfl rfl (by first | rfl | omega | (simp; done)) qI ?_
    refine A.took ?_
    refine A.take (i := 9) rfl rfl rfl rfl qk qk qk qk rfl qD qF ?_
    refine L.loadA rfl ag142 rfl qN ?_
    refine A.took ?_
    refine A.take (i := 13) rfl rfl rfl rfl qk qk qk qk rfl qD qF ?_
    refine L.loadA rfl ag142 rfl qN ?_
    refine A.took ?_
    refine A.takeP (i := 14) rfl rfl rfl rfl qk qk qk rfl qD ?_
    refine L.idxG (i := j) rfl Tryz.underlying22 sz142 rfl rfl (by first | rfl | omega | (simp; done)) qI ?_
    refine A.took ?_
    refine A.branch (is := [15]) qk (by decide) (Each.cons rfl ?_ <| Each.nil) 
    refine L.storeOA (j) ag142 rfl (by first | rfl | omega | (simp; done)) rfl qL qO qP qI ?_
    refine A.backT rfl qD ?_
    refine A.takeP (i := 16) rfl rfl rfl rfl qk qk qk rfl qD ?_
    refine L.idxG (i := j - 1) rfl Tryz.underlying22 sz142 rfl rfl (by first | rfl | omega | (simp; done)) qI ?_
    refine A.took ?_
    refine A.branch (is := [17]) qk (by decide) (Each.cons rfl ?_ <| Each.nil) 
    refine L.storeOA (j - 1) ag142 rfl (by first | rfl | omega | (simp; done)) rfl qL qO qP qI ?_
    refine A.backT rfl qD ?_
    refine A.done qk ?_
    refine T.blkN (T.thenN (T.region ?_))
    refine L.move rfl rfl ?_
    refine L.subN rfl rfl rfl (by omega) ?_
    rw [show (j : Int) - 1 = ((j - 1 : Nat) : Int) by omega]
    refine L.assign rfl rfl ?_
    refine L.nil ?_
    refine T.thenN ?_
    refine T.ownEq _ ((sw zs (j) (j - 1)).map eT) qP (by rw [sw, List.map_set, List.map_set]) ?_
    exact T.back ⟨j - 1, sw zs j (j - 1), ⟨by omega, hJ.swap (by omega) (by omega) h34, fun h0 => (hJ0 h0).swap (by omega) hj (by omega) h34⟩, rfl, rfl, rfl, rfl⟩ qI (.cons (t := 9) rfl <| SubK.nil _) (.cons (t := 0) rfl <| .cons (t := 1) rfl <| .cons (t := 2) rfl <| .cons (t := 3) rfl <| .cons (t := 8) rfl <| SubK.nil _) qD qD qF
   ·try simp only [dq] at h34
    have hstop0 : lo = 0 → 0 < j → ¬ cf (gd zs j) (gd zs (j - 1)) < 0 := fun _ _ => h34
    refine T.exit (T.thenX (T.thenX (T.blkX (T.blkN (T.thenN (T.region ?_))))))
    refine L.move rfl rfl ?_
    refine L.addN rfl rfl rfl (by omega) ?_
    refine L.assign rfl rfl ?_
    refine L.nil ?_
    refine T.thenN ?_
    exact T.back ⟨i + 1, _, ⟨by omega, hJ.end', fun h0 => InsJ.stop hC (hJ0 h0) (by omega) (by omega) (hstop0 h0)⟩, rfl, rfl, rfl, rfl⟩ qI (.cons (t := 8) rfl <| SubK.nil _) (.cons (t := 0) rfl <| .cons (t := 1) rfl <| .cons (t := 2) rfl <| .cons (t := 3) rfl <| SubK.nil _) qD qD qF
  ·try simp only [dq] at h1
   have hstop0 : lo = 0 → 0 < j → ¬ cf (gd zs j) (gd zs (j - 1)) < 0 := fun h0 h1 => by omega
   refine L.guardF (dj := 21) (c := false) rfl rfl rfl rfl rfl (by decide) ?_
   refine L.guardF (dj := 21) (c := false) rfl rfl rfl rfl rfl (by decide) ?_
   refine L.guardF (dj := 21) (c := false) rfl rfl rfl rfl rfl (by decide) ?_
   refine L.guardF (dj := 21) (c := false) rfl rfl rfl rfl rfl (by decide) ?_
   have hg1 : zs[j]? = some (gd zs j) := gd_get (by omega)
   refine L.guardF (dj := 21) (c := false) rfl rfl rfl rfl rfl (by decide) ?_
   refine L.guardF (dj := 21) (c := false) rfl rfl rfl rfl rfl (by decide) ?_
   refine L.guardF (dj := 21) (c := false) rfl rfl rfl rfl rfl (by decide) ?_
   refine L.guardF (dj := 21) (c := false) rfl rfl rfl rfl rfl (by decide) ?_
   refine L.guardF (dj := 21) (c := false) rfl rfl rfl rfl rfl (by decide) ?_
   have hg2 : zs[j - 1]? = some (gd zs (j - 1)) := gd_get (by omega)
   refine L.guardF (dj := 21) (c := false) rfl rfl rfl rfl rfl (by decide) ?_
   refine L.guardF (dj := 21) (c := false) rfl rfl rfl rfl rfl (by decide) ?_
   refine L.guardF (dj := 21) (c := false) rfl rfl rfl rfl rfl (by decide) ?_
   refine L.pickF rfl rfl rfl ?_
   refine L.nilQ ?_
   refine T.thenN ?_
   refine T.condF rfl rfl ?_
   refine T.exit (T.thenX (T.thenX (T.blkX (T.blkN (T.thenN (T.region ?_))))))
   refine L.move rfl rfl ?_
   refine L.addN rfl rfl rfl (by omega) ?_
   refine L.assign rfl rfl ?_
   refine L.nil ?_
   refine T.thenN ?_
   exact T.back ⟨i + 1, _, ⟨by omega, hJ.end', fun h0 => InsJ.stop hC (hJ0 h0) (by omega) (by omega) (hstop0 h0)⟩, rfl, rfl, rfl, rfl⟩ qI (.cons (t := 8) rfl <| SubK.nil _) (.cons (t := 0) rfl <| .cons (t := 1) rfl <| .cons (t := 2) rfl <| .cons (t := 3) rfl <| SubK.nil _) qD qD qF
 ·try simp only [dq] at h14
  refine T.exit (T.thenX (T.thenX (T.blkX ?_)))
  exact T.retN (by simp) rfl ⟨ys, rfl, hk, fun h0 h1 tag ht p q hp hq => ((hO h0).ord tag ht).1 p q hp (by omega), rfl, rfl⟩ qD qF
end Cv
