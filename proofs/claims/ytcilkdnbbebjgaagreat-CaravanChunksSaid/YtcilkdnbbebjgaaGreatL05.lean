/-
  The walks: symmetric merges.
-/
import Derived.Test.YtcilkdnbbebjgaaGreatJ05
import Derived.Test.YtcilkdnbbebjgaaGreatProg
import Derived.KernelRfl
set_option linter.unusedVariables false
set_option linter.unusedSimpArgs false
set_option linter.unusedSectionVars false
set_option maxRecDepth 10000
namespace Cv
open Go Go.Proofs

set_option maxHeartbeats 400000 in
theorem swr_spec {a : Option Addr} {len cap g : Nat} {caps : List Value} {xs : List ET} {p q k : Nat} (hb : len ≤ 1000000) (hp : p + k ≤ len) (hq : q + k ≤ len) : Spec Tryz.prog 189 [.slice a len cap, .int .i64 (p : Int), .int .i64 (q : Int), .int .i64 (k : Int), fnV g caps] [] [own 4 142 a len cap ((xs).map eT)] (fun v D' M' => ∃ (ys : List ET), v = .tuple #[] ∧ (SM xs ys) ∧ D' = [] ∧ M' = [own 4 142 a len cap ((ys).map eT)]) := by
 refine Spec.intro (n := 38) Tryz.func189 rfl rfl (by decide) (Nat.le_of_ble_eq_true rfl) rfl (fun _ => qA) (fun _ => qA) ?_
 intro σ D M
 refine T.ownLen qM (fun hl hcc => ?_)
 rw [List.length_map] at hl
 refine T.seq (T.region ?_)
 refine L.assign rfl rfl ?_
 refine L.nil ?_
 refine T.thenN (T.block ?_)
 refine T.loop (fun K' D' M' μ => ∃ (i : Nat) (zs : List ET), (i ≤ k ∧ SM xs zs) ∧ K' = [(10, .int .i64 i)] ∧ D' = [] ∧ M' = [own 4 142 a len cap ((zs).map eT)] ∧ μ = k - i) (.cons (t := 0) rfl <| .cons (t := 1) rfl <| .cons (t := 2) rfl <| .cons (t := 3) rfl <| SubK.nil _) (⟨0, xs, ⟨by omega, .refl _⟩, rfl, rfl, rfl, rfl⟩) (.cons (t := 10) rfl <| SubK.nil _) qD qS ?_
 rintro K1 D1 M1 m1 ⟨i, zs, ⟨hi, hs⟩, rfl, rfl, rfl, rfl⟩
 refine T.norm3 qA qA qA ?_
 have hzl := hs.1
 refine T.seq (T.seq (T.region ?_))
 refine L.move rfl rfl ?_
 refine L.move rfl rfl ?_
 refine L.ltI rfl rfl rfl ?_
 refine L.nil ?_
 refine T.thenN ?_
 refine T.cond rfl (fun h13 => ?_) (fun h13 => ?_)
 ·try simp only [dq] at h13
  refine T.ownNe qM (by omega) (fun b o ha => ?_)
  subst ha
  refine T.skip (T.thenN (T.seq (T.block ?_)))
  have hg0 : zs[p + i]? = some (gd zs (p + i)) := gd_get (by omega)
  have hg1 : zs[q + i]? = some (gd zs (q + i)) := gd_get (by omega)
  refine T.regionA (clsL [1, 1, 1, 1, 1, 1, 1, 1, 1, 1, 1, 1, 1, 0, 1, 1, 1, 1, 1, 0, 1, 2, 1, 2]) qk ?_
  refine A.takeP (i := 0) rfl rfl rfl rfl qk qk qk rfl qD ?_
  refine L.move rfl rfl ?_
  refine A.took ?_
  refine A.takeP (i := 1) rfl rfl rfl rfl qk qk qk rfl qD ?_
  refine L.move rfl rfl ?_
  refine A.took ?_
  refine A.takeP (i := 2) rfl rfl rfl rfl qk qk qk rfl qD ?_
  refine L.move rfl rfl ?_
  refine A.took ?_
  refine A.takeP (i := 3) rfl rfl rfl rfl qk qk qk rfl qD ?_
  refine L.addN rfl rfl rfl (by omega) ?_
  refine A.took ?_
  refine A.takeP (i := 4) rfl rfl rfl rfl qk qk qk rfl qD ?_
  refine L.move rfl rfl ?_
  refine A.took ?_
  refine A.takeP (i := 5) rfl rfl rfl rfl qk qk qk rfl qD ?_
  refine L.move rfl rfl ?_
  refine A.took ?_
  refine A.takeP (i := 6) rfl rfl rfl rfl qk qk qk rfl qD ?_
  refine L.move rfl rfl ?_
  refine A.took ?_
  refine A.takeP (i := 7) rfl rfl rfl rfl qk qk qk rfl qD ?_
  refine L.addN rfl rfl rfl (by omega) ?_
  refine A.took ?_
  refine A.takeP (i := 8) rfl rfl rfl rfl qk qk qk rfl qD ?_
  refine L.move rfl rfl ?_
  refine A.took ?_
  refine A.takeP (i := 9) rfl rfl rfl rfl qk qk qk rfl qD ?_
  refine L.move rfl rfl ?_
  refine A.took ?_
  refine A.takeP (i := 10) rfl rfl rfl rfl qk qk qk rfl qD ?_
  refine L.move rfl rfl ?_
  refine A.took ?_
  refine A.takeP (i := 11) rfl rfl rfl rfl qk qk qk rfl qD ?_
  refine L.addN rfl rfl rfl (by omega) ?_
  refine A.took ?_
  refine A.takeP (i := 12) rfl rfl rfl rfl qk qk qk rfl qD ?_
  refine L.idxG (i := q + i) rfl Tryz.underlying22 sz142 rfl rfl (by first | rfl | omega | (simp; done)) qI ?_
  refine A.took ?_
  refine A.takeP (i := 14) rfl rfl rfl rfl qk qk qk rfl qD ?_
  refine L.move rfl rfl ?_
  refine A.took ?_
  refine A.takeP (i := 15) rfl rfl rfl rfl qk qk qk rfl qD ?_
  refine L.move rfl rfl ?_
  refine A.took ?_
  refine A.takeP (i := 16) rfl rfl rfl rfl qk qk qk rfl qD ?_
  refine L.move rfl rfl ?_
  refine A.took ?_
  refine A.takeP (i := 17) rfl rfl rfl rfl qk qk qk rfl qD ?_
  refine L.addN rfl rfl rfl (by omega) ?_
  refine A.took ?_
  refine A.takeP (i := 18) rfl rfl rfl rfl qk qk qk rfl qD ?_
  refine L.idxG (i := p + i) rfl Tryz.underlying22 sz142 rfl rfl (by first | rfl | omega | (simp; done)) qI ?_
  refine A.took ?_
  refine A.take (i := 13) rfl rfl rfl rfl qk qk qk qk rfl qD qF ?_
  refine L.loadA rfl ag142 rfl qN ?_
  refine A.took ?_
  refine A.take (i := 19) rfl rfl rfl rfl qk qk qk qk rfl qD qF ?_
  refine L.loadA rfl ag142 rfl qN ?_
  refine A.took ?_
  refine A.takeP (i := 20) rfl rfl rfl rfl qk qk qk rfl qD ?_
  refine L.idxG (i := p + i) rfl Tryz.underlying22 sz142 rfl rfl (by first | rfl | omega | (simp; done)) qI ?_
  refine A.took ?_
  refine A.branch (is := [21]) qk (by decide) (Each.cons rfl ?_ <| Each.nil) 
  refine L.storeOA (p + i) ag142 rfl (by first | rfl | omega | (simp; done)) rfl qL qO qP qI ?_
  refine A.backT rfl qD ?_
  refine A.takeP (i := 22) rfl rfl rfl rfl qk qk qk rfl qD ?_
  refine L.idxG (i := q + i) rfl Tryz.underlying22 sz142 rfl rfl (by first | rfl | omega | (simp; done)) qI ?_
  refine A.took ?_
  refine A.branch (is := [23]) qk (by decide) (Each.cons rfl ?_ <| Each.nil) 
  refine L.storeOA (q + i) ag142 rfl (by first | rfl | omega | (simp; done)) rfl qL qO qP qI ?_
  refine A.backT rfl qD ?_
  refine A.done qk ?_
  refine T.blkN (T.thenN (T.region ?_))
  refine L.move rfl rfl ?_
  refine L.addN rfl rfl rfl (by omega) ?_
  refine L.assign rfl rfl ?_
  refine L.nil ?_
  refine T.thenN ?_
  refine T.ownEq _ ((sw zs (p + i) (q + i)).map eT) qP (by rw [sw, List.map_set, List.map_set]) ?_
  exact T.back ⟨i + 1, sw zs (p + i) (q + i), ⟨by omega, hs.trans (sw_sm (by omega) (by omega))⟩, rfl, rfl, rfl, rfl⟩ qI (.cons (t := 10) rfl <| SubK.nil _) (.cons (t := 0) rfl <| .cons (t := 1) rfl <| .cons (t := 2) rfl <| .cons (t := 3) rfl <| SubK.nil _) qD qD qF
 ·try simp only [dq] at h13
  refine T.exit (T.thenX (T.thenX (T.blkX ?_)))
  exact T.retN (by simp) rfl ⟨zs, rfl, hs, rfl, rfl⟩ qD qF
set_option maxHeartbeats 400000 in
theorem rot_spec {a : Option Addr} {len cap g : Nat} {caps : List Value} {xs : List ET} {lo m hi : Nat} (hb : len ≤ 1000000) (h1 : lo < m) (h2 : m < hi) (h3 : hi ≤ len) : Spec Tryz.prog 180 [.slice a len cap, .int .i64 (lo : Int), .int .i64 (m : Int), .int .i64 (hi : Int), fnV g caps] [] [own 4 142 a len cap ((xs).map eT)] (fun v D' M' => ∃ (ys : List ET), v = .tuple #[] ∧ (SM xs ys) ∧ D' = [] ∧ M' = [own 4 142 a len cap ((ys).map eT)]) := by
 refine Spec.intro (n := 58) Tryz.func180 rfl rfl (by decide) (Nat.le_of_ble_eq_true rfl) rfl (fun _ => qA) (fun _ => qA) ?_
 intro σ D M
 refine T.ownLen qM (fun hl hcc => ?_)
 rw [List.length_map] at hl
 refine T.seq (T.region ?_)
 refine L.move rfl rfl ?_
 refine L.move rfl rfl ?_
 refine L.subN rfl rfl rfl (by omega) ?_
 rw [show (m : Int) - (lo : Int) = ((m - lo : Nat) : Int) by omega]
 refine L.assign rfl rfl ?_
 refine L.nil ?_
 refine T.thenN (T.seq (T.region ?_))
 refine L.move rfl rfl ?_
 refine L.move rfl rfl ?_
 refine L.subN rfl rfl rfl (by omega) ?_
 rw [show (hi : Int) - (m : Int) = ((hi - m : Nat) : Int) by omega]
 refine L.assign rfl rfl ?_
 refine L.nil ?_
 refine T.thenN (T.seq (T.block ?_))
 refine T.loop (fun K' D' M' μ => ∃ (i j : Nat) (zs : List ET), ((0 < i ∧ 0 < j ∧ i ≤ m - lo ∧ j ≤ hi - m) ∧ SM xs zs) ∧ K' = [(10, .int .i64 i), (11, .int .i64 j)] ∧ D' = [] ∧ M' = [own 4 142 a len cap ((zs).map eT)] ∧ μ = i + j) (.cons (t := 0) rfl <| .cons (t := 2) rfl <| .cons (t := 4) rfl <| SubK.nil _) (⟨m - lo, hi - m, xs, ⟨by omega, .refl _⟩, rfl, rfl, rfl, rfl⟩) (.cons (t := 10) rfl <| .cons (t := 11) rfl <| SubK.nil _) qD qS ?_
 rintro K1 D1 M1 m1 ⟨i, j, zs, ⟨hij, hs⟩, rfl, rfl, rfl, rfl⟩
 refine T.norm3 qA qA qA ?_
 have hzl := hs.1
 refine T.seq (T.seq (T.region ?_))
 refine L.move rfl rfl ?_
 refine L.move rfl rfl ?_
 refine L.neI rfl rfl rfl ?_
 refine L.nil ?_
 refine T.thenN ?_
 refine T.cond rfl (fun h20 => ?_) (fun h20 => ?_)
 ·try simp only [dq] at h20
  refine T.skip (T.thenN (T.block (T.seq (T.region ?_))))
  refine L.move rfl rfl ?_
  refine L.move rfl rfl ?_
  refine L.gtI rfl rfl rfl ?_
  refine L.nil ?_
  refine T.thenN ?_
  refine T.cond rfl (fun h23 => ?_) (fun h23 => ?_)
  ·try simp only [dq] at h23
   refine T.seq (T.region ?_)
   refine L.move rfl rfl ?_
   refine L.move rfl rfl ?_
   refine L.move rfl rfl ?_
   refine L.subN rfl rfl rfl (by omega) ?_
   rw [show (m : Int) - (i : Int) = ((m - i : Nat) : Int) by omega]
   refine L.move rfl rfl ?_
   refine L.move rfl rfl ?_
   refine L.move rfl rfl ?_
   refine L.call rfl (evs.cons rfl <| evs.cons rfl <| evs.cons rfl <| evs.cons rfl <| evs.cons rfl <| evs.nil) qD qS (swr_spec (p := m - i) (q := m) (k := j) hb (by omega) (by omega)) ?_
   rintro _ _ _ ⟨ys, rfl, hs2, rfl, rfl⟩
   refine L.norm qA qA ?_
   refine L.nil ?_
   refine T.thenN (T.region ?_)
   refine L.move rfl rfl ?_
   refine L.move rfl rfl ?_
   refine L.subN rfl rfl rfl (by omega) ?_
   rw [show (i : Int) - (j : Int) = ((i - j : Nat) : Int) by omega]
   refine L.assign rfl rfl ?_
   refine L.nil ?_
   refine T.blkN (T.thenN ?_)
   exact T.back ⟨i - j, j, _, ⟨by omega, hs.trans hs2⟩, rfl, rfl, rfl, rfl⟩ qI (.cons (t := 10) rfl <| .cons (t := 11) rfl <| SubK.nil _) (.cons (t := 0) rfl <| .cons (t := 2) rfl <| .cons (t := 4) rfl <| SubK.nil _) qD qD qF
  ·try simp only [dq] at h23
   refine T.seq (T.region ?_)
   refine L.move rfl rfl ?_
   refine L.move rfl rfl ?_
   refine L.move rfl rfl ?_
   refine L.subN rfl rfl rfl (by omega) ?_
   rw [show (m : Int) - (i : Int) = ((m - i : Nat) : Int) by omega]
   refine L.move rfl rfl ?_
   refine L.move rfl rfl ?_
   refine L.addN rfl rfl rfl (by omega) ?_
   refine L.move rfl rfl ?_
   refine L.subN rfl rfl rfl (by omega) ?_
   rw [show (m : Int) + (j : Int) - (i : Int) = ((m + j - i : Nat) : Int) by omega]
   refine L.move rfl rfl ?_
   refine L.move rfl rfl ?_
   refine L.call rfl (evs.cons rfl <| evs.cons rfl <| evs.cons rfl <| evs.cons rfl <| evs.cons rfl <| evs.nil) qD qS (swr_spec (p := m - i) (q := m + j - i) (k := i) hb (by omega) (by omega)) ?_
   rintro _ _ _ ⟨ys, rfl, hs2, rfl, rfl⟩
   refine L.norm qA qA ?_
   refine L.nil ?_
   refine T.thenN (T.region ?_)
   refine L.move rfl rfl ?_
   refine L.move rfl rfl ?_
   refine L.subN rfl rfl rfl (by omega) ?_
   rw [show (j : Int) - (i : Int) = ((j - i : Nat) : Int) by omega]
   refine L.assign rfl rfl ?_
   refine L.nil ?_
   refine T.blkN (T.thenN ?_)
   exact T.back ⟨i, j - i, _, ⟨by omega, hs.trans hs2⟩, rfl, rfl, rfl, rfl⟩ qI (.cons (t := 10) rfl <| .cons (t := 11) rfl <| SubK.nil _) (.cons (t := 0) rfl <| .cons (t := 2) rfl <| .cons (t := 4) rfl <| SubK.nil _) qD qD qF
 ·try simp only [dq] at h20
  refine T.exit (T.thenX (T.thenX (T.blkX (T.thenN (T.region ?_)))))
  refine L.move rfl rfl ?_
  refine L.move rfl rfl ?_
  refine L.move rfl rfl ?_
  refine L.subN rfl rfl rfl (by omega) ?_
  rw [show (m : Int) - (i : Int) = ((m - i : Nat) : Int) by omega]
  refine L.move rfl rfl ?_
  refine L.move rfl rfl ?_
  refine L.move rfl rfl ?_
  refine L.call rfl (evs.cons rfl <| evs.cons rfl <| evs.cons rfl <| evs.cons rfl <| evs.cons rfl <| evs.nil) qD qS (swr_spec (p := m - i) (q := m) (k := i) hb (by omega) (by omega)) ?_
  rintro _ _ _ ⟨ys, rfl, hs2, rfl, rfl⟩
  refine L.norm qA qA ?_
  refine L.nil ?_
  exact T.retN (by simp) rfl ⟨_, rfl, hs.trans hs2, rfl, rfl⟩ qD qF
theorem half_eq (i j : Nat) : Int.fdiv ((i : Int) + (j : Int)) (2 ^ (min (1 : Int).toNat IntKind.u64.bits)) = (((i + j) / 2 : Nat) : Int) := by
 show Int.fdiv ((i : Int) + (j : Int)) 2 = _
 rw [Int.fdiv_eq_ediv_of_nonneg _ (by omega)]; omega
def SymQ (a : Option Addr) (len cap g : Nat) (caps : List Value) (cf : ET → ET → Int) (lo m hi : Nat) (xs : List ET) : Prop := Spec Tryz.prog 176 [.slice a len cap, .int .i64 (lo : Int), .int .i64 (m : Int), .int .i64 (hi : Int), fnV g caps] [] [own 4 142 a len cap ((xs).map eT)] (fun v D' M' => ∃ ys, v = .tuple #[] ∧ (Kp cf xs ys) ∧ D' = [] ∧ M' = [own 4 142 a len cap ((ys).map eT)])
set_option maxHeartbeats 1600000 in
theorem sym_step {a : Option Addr} {len cap g : Nat} {caps : List Value} {cf : ET → ET → Int} {xs : List ET} (hC : Cmp cf) (hc : ∀ x y : ET, Spec Tryz.prog g ([.agg (eT x).toArray, .agg (eT y).toArray] ++ caps) [] [] (fun u D' M' => u = .int .i64 (cf x y) ∧ D' = [] ∧ M' = [])) {lo m hi : Nat} (ih : ∀ (lo' m' hi' : Nat) (xs' : List ET), hi' - lo' < hi - lo → lo' < m' → m' < hi' → hi' ≤ len → SymQ a len cap g caps cf lo' m' hi' xs') (hb : len ≤ 1000000) (h1 : lo < m) (h2 : m < hi) (h3 : hi ≤ len) : Spec Tryz.prog 176 [.slice a len cap, .int .i64 (lo : Int), .int .i64 (m : Int), .int .i64 (hi : Int), fnV g caps] [] [own 4 142 a len cap ((xs).map eT)] (fun v D' M' => ∃ (ys : List ET), v = .tuple #[] ∧ (Kp cf xs ys) ∧ D' = [] ∧ M' = [own 4 142 a len cap ((ys).map eT)]) := by
 refine Spec.intro (n := 220) Tryz.func176 rfl rfl (by decide) (Nat.le_of_ble_eq_true rfl) rfl (fun _ => qA) (fun _ => qA) ?_
 intro σ D M
 refine T.ownLen qM (fun hl hcc => ?_)
 rw [List.length_map] at hl
 refine T.ownNe qM (by omega) (fun b o ha => ?_)
 obtain rfl := ha
 refine T.seq (T.seq (T.region ?_))
 refine L.move rfl rfl ?_
 refine L.move rfl rfl ?_
 refine L.subN rfl rfl rfl (by omega) ?_
 refine L.eqI rfl rfl rfl ?_
 refine L.nil ?_
 refine T.thenN ?_
 refine T.cond rfl (fun h28 => ?_) (fun h28 => ?_)
 ·try simp only [dq] at h28
  refine T.seq (T.region ?_)
  refine L.move rfl rfl ?_
  refine L.assign rfl rfl ?_
  refine L.nil ?_
  refine T.thenN (T.seq (T.region ?_))
  refine L.move rfl rfl ?_
  refine L.assign rfl rfl ?_
  refine L.nil ?_
  refine T.thenN (T.seq (T.block ?_))
  refine T.loop (fun K' D' M' μ => ∃ (i j : Nat), ((m ≤ i ∧ i ≤ j ∧ j ≤ hi) ∧ (Srt cf xs → i = m)) ∧ K' = [(10, .int .i64 i), (11, .int .i64 j)] ∧ D' = [] ∧ M' = [own 4 142 (some ⟨b, o, none⟩) len cap ((xs).map eT)] ∧ μ = j - i) (.cons (t := 0) rfl <| .cons (t := 1) rfl <| .cons (t := 4) rfl <| SubK.nil _) (⟨m, hi, ⟨by omega, fun _ => rfl⟩, rfl, rfl, rfl, rfl⟩) (.cons (t := 10) rfl <| .cons (t := 11) rfl <| SubK.nil _) qD qS ?_
  rintro K1 D1 M1 m1 ⟨i, j, ⟨hij, hS⟩, rfl, rfl, rfl, rfl⟩
  refine T.norm3 qA qA qA ?_
  refine T.seq (T.seq (T.region ?_))
  refine L.move rfl rfl ?_
  refine L.move rfl rfl ?_
  refine L.ltI rfl rfl rfl ?_
  refine L.nil ?_
  refine T.thenN ?_
  refine T.cond rfl (fun h33 => ?_) (fun h33 => ?_)
  ·try simp only [dq] at h33
   refine T.skip (T.thenN (T.block (T.seq (T.region ?_))))
   refine L.move rfl rfl ?_
   refine L.move rfl rfl ?_
   refine L.addN rfl rfl rfl (by omega) ?_
   refine L.convU rfl Tryz.underlying3 Tryz.underlying140 rfl qI ?_
   refine L.shrI rfl rfl rfl qI ?_
   rw [half_eq]
   refine L.convN rfl Tryz.underlying140 Tryz.underlying3 rfl qI ?_
   refine L.assign rfl rfl ?_
   refine L.nil ?_
   refine T.thenN (T.seq ?_)
   have hg0 : xs[(i + j) / 2]? = some (gd xs ((i + j) / 2)) := gd_get (by omega)
   have hg1 : xs[lo]? = some (gd xs (lo)) := gd_get (by omega)
   refine T.regionQ qk qk ?_
   refine L.move rfl rfl ?_
   refine L.move rfl rfl ?_
   refine L.move rfl rfl ?_
   refine L.idxG (i := (i + j) / 2) rfl Tryz.underlying22 sz142 rfl rfl (by first | rfl | omega | (simp; done)) qI ?_
   refine L.loadA rfl ag142 rfl qN ?_
   refine L.move rfl rfl ?_
   refine L.move rfl rfl ?_
   refine L.idxG (i := lo) rfl Tryz.underlying22 sz142 rfl rfl (by first | rfl | omega | (simp; done)) qI ?_
   refine L.loadA rfl ag142 rfl qN ?_
   refine L.callVF rfl rfl (evs.cons rfl <| evs.cons rfl <| evs.nil) qD qS (hc (gd xs ((i + j) / 2)) (gd xs lo)) (by rintro u D1 M1 ⟨rfl, rfl, rfl⟩; exact ⟨rfl, _, qA, qF⟩) ?_
   refine L.ltI rfl rfl rfl ?_
   refine L.nilQ ?_
   refine T.thenN ?_
   refine T.cond rfl (fun h50 => ?_) (fun h50 => ?_)
   ·try simp only [dq] at h50
    refine T.region ?_
    refine L.move rfl rfl ?_
    refine L.addN rfl rfl rfl (by omega) ?_
    refine L.assign rfl rfl ?_
    refine L.nil ?_
    refine T.blkN (T.thenN ?_)
    exact T.back ⟨(i + j) / 2 + 1, j, ⟨by omega, fun q => absurd h50 (q lo ((i + j) / 2) (by omega) (by omega))⟩, rfl, rfl, rfl, rfl⟩ qI (.cons (t := 10) rfl <| .cons (t := 11) rfl <| SubK.nil _) (.cons (t := 0) rfl <| .cons (t := 1) rfl <| .cons (t := 4) rfl <| SubK.nil _) qD qD qF
   ·try simp only [dq] at h50
    refine T.region ?_
    refine L.move rfl rfl ?_
    refine L.assign rfl rfl ?_
    refine L.nil ?_
    refine T.blkN (T.thenN ?_)
    exact T.back ⟨i, (i + j) / 2, ⟨by omega, hS⟩, rfl, rfl, rfl, rfl⟩ qI (.cons (t := 10) rfl <| .cons (t := 11) rfl <| SubK.nil _) (.cons (t := 0) rfl <| .cons (t := 1) rfl <| .cons (t := 4) rfl <| SubK.nil _) qD qD qF
  ·try simp only [dq] at h33
   refine T.exit (T.thenX (T.thenX (T.blkX (T.thenN (T.seq (T.seq (T.region ?_)))))))
   refine L.move rfl rfl ?_
   refine L.assign rfl rfl ?_
   refine L.nil ?_
   refine T.thenN (T.block ?_)
   refine T.loop (fun K' D' M' μ => ∃ (k : Nat) (zs : List ET), (lo ≤ k ∧ Kp cf xs zs) ∧ K' = [(13, .int .i64 k)] ∧ D' = [] ∧ M' = [own 4 142 (some ⟨b, o, none⟩) len cap ((zs).map eT)] ∧ μ = i - k) (.cons (t := 0) rfl <| .cons (t := 10) rfl <| SubK.nil _) (⟨lo, xs, ⟨by omega, .refl _⟩, rfl, rfl, rfl, rfl⟩) (.cons (t := 13) rfl <| SubK.nil _) qD qS ?_
   rintro K1 D1 M1 m1 ⟨k, zs, ⟨hk, hkp⟩, rfl, rfl, rfl, rfl⟩
   refine T.norm3 qA qA qA ?_
   have hzl := hkp.sm.1
   refine T.seq (T.seq (T.region ?_))
   refine L.move rfl rfl ?_
   refine L.move rfl rfl ?_
   refine L.subN rfl rfl rfl (by omega) ?_
   refine L.ltI rfl rfl rfl ?_
   refine L.nil ?_
   refine T.thenN ?_
   refine T.cond rfl (fun h58 => ?_) (fun h58 => ?_)
   ·try simp only [dq] at h58
    refine T.skip (T.thenN (T.seq (T.block ?_)))
    have hg0 : zs[k]? = some (gd zs (k)) := gd_get (by omega)
    have hg1 : zs[k + 1]? = some (gd zs (k + 1)) := gd_get (by omega)
    refine T.regionA (clsL [1, 1, 1, 1, 1, 1, 1, 1, 1, 0, 1, 1, 1, 0, 1, 2, 1, 2]) qk ?_
    refine A.takeP (i := 0) rfl rfl rfl rfl qk qk qk rfl qD ?_
    refine L.move rfl rfl ?_
    refine A.took ?_
    refine A.takeP (i := 1) rfl rfl rfl rfl qk qk qk rfl qD ?_
    refine L.move rfl rfl ?_
    refine A.took ?_
    refine A.takeP (i := 2) rfl rfl rfl rfl qk qk qk rfl qD ?_
    refine L.move rfl rfl ?_
    refine A.took ?_
    refine A.takeP (i := 3) rfl rfl rfl rfl qk qk qk rfl qD ?_
    refine L.move rfl rfl ?_
    refine A.took ?_
    refine A.takeP (i := 4) rfl rfl rfl rfl qk qk qk rfl qD ?_
    refine L.addN rfl rfl rfl (by omega) ?_
    refine A.took ?_
    refine A.takeP (i := 5) rfl rfl rfl rfl qk qk qk rfl qD ?_
    refine L.move rfl rfl ?_
    refine A.took ?_
    refine A.takeP (i := 6) rfl rfl rfl rfl qk qk qk rfl qD ?_
    refine L.move rfl rfl ?_
    refine A.took ?_
    refine A.takeP (i := 7) rfl rfl rfl rfl qk qk qk rfl qD ?_
    refine L.addN rfl rfl rfl (by omega) ?_
    refine A.took ?_
    refine A.takeP (i := 8) rfl rfl rfl rfl qk qk qk rfl qD ?_
    refine L.idxG (i := k + 1) rfl Tryz.underlying22 sz142 rfl rfl (by first | rfl | omega | (simp; done)) qI ?_
    refine A.took ?_
    refine A.takeP (i := 10) rfl rfl rfl rfl qk qk qk rfl qD ?_
    refine L.move rfl rfl ?_
    refine A.took ?_
    refine A.takeP (i := 11) rfl rfl rfl rfl qk qk qk rfl qD ?_
    refine L.move rfl rfl ?_
    refine A.took ?_
    refine A.takeP (i := 12) rfl rfl rfl rfl qk qk qk rfl qD ?_
    refine L.idxG (i := k) rfl Tryz.underlying22 sz142 rfl rfl (by first | rfl | omega | (simp; done)) qI ?_
    refine A.took ?_
    refine A.take (i := 9) rfl rfl rfl rfl qk qk qk qk rfl qD qF ?_
    refine L.loadA rfl ag142 rfl qN ?_
    refine A.took ?_
    refine A.take (i := 13) rfl rfl rfl rfl qk qk qk qk rfl qD qF ?_
    refine L.loadA rfl ag142 rfl qN ?_
    refine A.took ?_
    refine A.takeP (i := 14) rfl rfl rfl rfl qk qk qk rfl qD ?_
    refine L.idxG (i := k) rfl Tryz.underlying22 sz142 rfl rfl (by first | rfl | omega | (simp; done)) qI ?_
    refine A.took ?_
    refine A.branch (is := [15]) qk (by decide) (Each.cons rfl ?_ <| Each.nil) 
    refine L.storeOA (k) ag142 rfl (by first | rfl | omega | (simp; done)) rfl qL qO qP qI ?_
    refine A.backT rfl qD ?_
    refine A.takeP (i := 16) rfl rfl rfl rfl qk qk qk rfl qD ?_
    refine L.idxG (i := k + 1) rfl Tryz.underlying22 sz142 rfl rfl (by first | rfl | omega | (simp; done)) qI ?_
    refine A.took ?_
    refine A.branch (is := [17]) qk (by decide) (Each.cons rfl ?_ <| Each.nil) 
    refine L.storeOA (k + 1) ag142 rfl (by first | rfl | omega | (simp; done)) rfl qL qO qP qI ?_
    refine A.backT rfl qD ?_
    refine A.done qk ?_
    refine T.blkN (T.thenN (T.region ?_))
    refine L.move rfl rfl ?_
    refine L.addN rfl rfl rfl (by omega) ?_
    refine L.assign rfl rfl ?_
    refine L.nil ?_
    refine T.thenN ?_
    refine T.ownEq _ ((sw zs (k) (k + 1)).map eT) qP (by rw [sw, List.map_set, List.map_set]) ?_
    exact T.back ⟨k + 1, sw zs k (k + 1), ⟨by omega, Kp.of (hkp.sm.trans (sw_sm (by omega) (by omega))) (fun q => by have := hS q; omega)⟩, rfl, rfl, rfl, rfl⟩ qI (.cons (t := 13) rfl <| SubK.nil _) (.cons (t := 0) rfl <| .cons (t := 10) rfl <| SubK.nil _) qD qD qF
   ·try simp only [dq] at h58
    refine T.exit (T.thenX (T.thenX (T.blkX (T.thenN (T.ret ?_)))))
    refine T.thenR ?_
    exact T.retN (by simp) rfl ⟨_, rfl, hkp, rfl, rfl⟩ qD qF
 ·try simp only [dq] at h28
  refine T.skip (T.thenN (T.seq (T.seq (T.region ?_))))
  refine L.move rfl rfl ?_
  refine L.move rfl rfl ?_
  refine L.subN rfl rfl rfl (by omega) ?_
  refine L.eqI rfl rfl rfl ?_
  refine L.nil ?_
  refine T.thenN ?_
  refine T.cond rfl (fun h80 => ?_) (fun h80 => ?_)
  ·try simp only [dq] at h80
   refine T.seq (T.region ?_)
   refine L.move rfl rfl ?_
   refine L.assign rfl rfl ?_
   refine L.nil ?_
   refine T.thenN (T.seq (T.region ?_))
   refine L.move rfl rfl ?_
   refine L.assign rfl rfl ?_
   refine L.nil ?_
   refine T.thenN (T.seq (T.block ?_))
   refine T.loop (fun K' D' M' μ => ∃ (i j : Nat), ((lo ≤ i ∧ i ≤ j ∧ j ≤ m) ∧ (Srt cf xs → j = m)) ∧ K' = [(14, .int .i64 i), (15, .int .i64 j)] ∧ D' = [] ∧ M' = [own 4 142 (some ⟨b, o, none⟩) len cap ((xs).map eT)] ∧ μ = j - i) (.cons (t := 0) rfl <| .cons (t := 2) rfl <| .cons (t := 4) rfl <| SubK.nil _) (⟨lo, m, ⟨by omega, fun _ => rfl⟩, rfl, rfl, rfl, rfl⟩) (.cons (t := 14) rfl <| .cons (t := 15) rfl <| SubK.nil _) qD qS ?_
   rintro K1 D1 M1 m1 ⟨i, j, ⟨hij, hS⟩, rfl, rfl, rfl, rfl⟩
   refine T.norm3 qA qA qA ?_
   refine T.seq (T.seq (T.region ?_))
   refine L.move rfl rfl ?_
   refine L.move rfl rfl ?_
   refine L.ltI rfl rfl rfl ?_
   refine L.nil ?_
   refine T.thenN ?_
   refine T.cond rfl (fun h85 => ?_) (fun h85 => ?_)
   ·try simp only [dq] at h85
    refine T.skip (T.thenN (T.block (T.seq (T.region ?_))))
    refine L.move rfl rfl ?_
    refine L.move rfl rfl ?_
    refine L.addN rfl rfl rfl (by omega) ?_
    refine L.convU rfl Tryz.underlying3 Tryz.underlying140 rfl qI ?_
    refine L.shrI rfl rfl rfl qI ?_
    rw [half_eq]
    refine L.convN rfl Tryz.underlying140 Tryz.underlying3 rfl qI ?_
    refine L.assign rfl rfl ?_
    refine L.nil ?_
    refine T.thenN (T.seq ?_)
    have hg0 : xs[m]? = some (gd xs (m)) := gd_get (by omega)
    have hg1 : xs[(i + j) / 2]? = some (gd xs ((i + j) / 2)) := gd_get (by omega)
    refine T.regionQ qk qk ?_
    refine L.move rfl rfl ?_
    refine L.move rfl rfl ?_
    refine L.move rfl rfl ?_
    refine L.idxG (i := m) rfl Tryz.underlying22 sz142 rfl rfl (by first | rfl | omega | (simp; done)) qI ?_
    refine L.loadA rfl ag142 rfl qN ?_
    refine L.move rfl rfl ?_
    refine L.move rfl rfl ?_
    refine L.idxG (i := (i + j) / 2) rfl Tryz.underlying22 sz142 rfl rfl (by first | rfl | omega | (simp; done)) qI ?_
    refine L.loadA rfl ag142 rfl qN ?_
    refine L.callVF rfl rfl (evs.cons rfl <| evs.cons rfl <| evs.nil) qD qS (hc (gd xs m) (gd xs ((i + j) / 2))) (by rintro u D1 M1 ⟨rfl, rfl, rfl⟩; exact ⟨rfl, _, qA, qF⟩) ?_
    refine L.ltI rfl rfl rfl ?_
    refine L.notB rfl rfl ?_
    refine L.nilQ ?_
    refine T.thenN ?_
    refine T.cond rfl (fun h103 => ?_) (fun h103 => ?_)
    ·try simp only [dq] at h103
     refine T.region ?_
     refine L.move rfl rfl ?_
     refine L.addN rfl rfl rfl (by omega) ?_
     refine L.assign rfl rfl ?_
     refine L.nil ?_
     refine T.blkN (T.thenN ?_)
     exact T.back ⟨(i + j) / 2 + 1, j, ⟨by omega, hS⟩, rfl, rfl, rfl, rfl⟩ qI (.cons (t := 14) rfl <| .cons (t := 15) rfl <| SubK.nil _) (.cons (t := 0) rfl <| .cons (t := 2) rfl <| .cons (t := 4) rfl <| SubK.nil _) qD qD qF
    ·try simp only [dq] at h103
     refine T.region ?_
     refine L.move rfl rfl ?_
     refine L.assign rfl rfl ?_
     refine L.nil ?_
     refine T.blkN (T.thenN ?_)
     exact T.back ⟨i, (i + j) / 2, ⟨by omega, fun q => absurd h103 (q ((i + j) / 2) m (by omega) (by omega))⟩, rfl, rfl, rfl, rfl⟩ qI (.cons (t := 14) rfl <| .cons (t := 15) rfl <| SubK.nil _) (.cons (t := 0) rfl <| .cons (t := 2) rfl <| .cons (t := 4) rfl <| SubK.nil _) qD qD qF
   ·try simp only [dq] at h85
    refine T.exit (T.thenX (T.thenX (T.blkX (T.thenN (T.seq (T.seq (T.region ?_)))))))
    refine L.move rfl rfl ?_
    refine L.assign rfl rfl ?_
    refine L.nil ?_
    refine T.thenN (T.block ?_)
    refine T.loop (fun K' D' M' μ => ∃ (k : Nat) (zs : List ET), ((i ≤ k ∧ k ≤ m) ∧ Kp cf xs zs) ∧ K' = [(17, .int .i64 k)] ∧ D' = [] ∧ M' = [own 4 142 (some ⟨b, o, none⟩) len cap ((zs).map eT)] ∧ μ = k - i) (.cons (t := 0) rfl <| .cons (t := 14) rfl <| SubK.nil _) (⟨m, xs, ⟨by omega, .refl _⟩, rfl, rfl, rfl, rfl⟩) (.cons (t := 17) rfl <| SubK.nil _) qD qS ?_
    rintro K1 D1 M1 m1 ⟨k, zs, ⟨hk, hkp⟩, rfl, rfl, rfl, rfl⟩
    refine T.norm3 qA qA qA ?_
    have hzl := hkp.sm.1
    refine T.seq (T.seq (T.region ?_))
    refine L.move rfl rfl ?_
    refine L.move rfl rfl ?_
    refine L.gtI rfl rfl rfl ?_
    refine L.nil ?_
    refine T.thenN ?_
    refine T.cond rfl (fun h110 => ?_) (fun h110 => ?_)
    ·try simp only [dq] at h110
     refine T.skip (T.thenN (T.seq (T.block ?_)))
     have hg0 : zs[k]? = some (gd zs (k)) := gd_get (by omega)
     have hg1 : zs[k - 1]? = some (gd zs (k - 1)) := gd_get (by omega)
     refine T.regionA (clsL [1, 1, 1, 1, 1, 1, 1, 1, 1, 0, 1, 1, 1, 0, 1, 2, 1, 2]) qk ?_
     refine A.takeP (i := 0) rfl rfl rfl rfl qk qk qk rfl qD ?_
     refine L.move rfl rfl ?_
     refine A.took ?_
     refine A.takeP (i := 1) rfl rfl rfl rfl qk qk qk rfl qD ?_
     refine L.move rfl rfl ?_
     refine A.took ?_
     refine A.takeP (i := 2) rfl rfl rfl rfl qk qk qk rfl qD ?_
     refine L.move rfl rfl ?_
     refine A.took ?_
     refine A.takeP (i := 3) rfl rfl rfl rfl qk qk qk rfl qD ?_
     refine L.move rfl rfl ?_
     refine A.took ?_
     refine A.takeP (i := 4) rfl rfl rfl rfl qk qk qk rfl qD ?_
     refine L.subN rfl rfl rfl (by omega) ?_
     rw [show (k : Int) - 1 = ((k - 1 : Nat) : Int) by omega]
     refine A.took ?_
     refine A.takeP (i := 5) rfl rfl rfl rfl qk qk qk rfl qD ?_
     refine L.move rfl rfl ?_
     refine A.took ?_
     refine A.takeP (i := 6) rfl rfl rfl rfl qk qk qk rfl qD ?_
     refine L.move rfl rfl ?_
     refine A.took ?_
     refine A.takeP (i := 7) rfl rfl rfl rfl qk qk qk rfl qD ?_
     refine L.subN rfl rfl rfl (by omega) ?_
     rw [show (k : Int) - 1 = ((k - 1 : Nat) : Int) by omega]
     refine A.took ?_
     refine A.takeP (i := 8) rfl rfl rfl rfl qk qk qk rfl qD ?_
     refine L.idxG (i := k - 1) rfl Tryz.underlying22 sz142 rfl rfl (by first | rfl | omega | (simp; done)) qI ?_
     refine A.took ?_
     refine A.takeP (i := 10) rfl rfl rfl rfl qk qk qk rfl qD ?_
     refine L.move rfl rfl ?_
     refine A.took ?_
     refine A.takeP (i := 11) rfl rfl rfl rfl qk qk qk rfl qD ?_
     refine L.move rfl rfl ?_
     refine A.took ?_
     refine A.takeP (i := 12) rfl rfl rfl rfl qk qk qk rfl qD ?_
     refine L.idxG (i := k) rfl Tryz.underlying22 sz142 rfl rfl (by first | rfl | omega | (simp; done)) qI ?_
     refine A.took ?_
     refine A.take (i := 9) rfl rfl rfl rfl qk qk qk qk rfl qD qF ?_
     refine L.loadA rfl ag142 rfl qN ?_
     refine A.took ?_
     refine A.take (i := 13) rfl rfl rfl rfl qk qk qk qk rfl qD qF ?_
     refine L.loadA rfl ag142 rfl qN ?_
     refine A.took ?_
     refine A.takeP (i := 14) rfl rfl rfl rfl qk qk qk rfl qD ?_
     refine L.idxG (i := k) rfl Tryz.underlying22 sz142 rfl rfl (by first | rfl | omega | (simp; done)) qI ?_
     refine A.took ?_
     refine A.branch (is := [15]) qk (by decide) (Each.cons rfl ?_ <| Each.nil) 
     refine L.storeOA (k) ag142 rfl (by first | rfl | omega | (simp; done)) rfl qL qO qP qI ?_
     refine A.backT rfl qD ?_
     refine A.takeP (i := 16) rfl rfl rfl rfl qk qk qk rfl qD ?_
     refine L.idxG (i := k - 1) rfl Tryz.underlying22 sz142 rfl rfl (by first | rfl | omega | (simp; done)) qI ?_
     refine A.took ?_
     refine A.branch (is := [17]) qk (by decide) (Each.cons rfl ?_ <| Each.nil) 
     refine L.storeOA (k - 1) ag142 rfl (by first | rfl | omega | (simp; done)) rfl qL qO qP qI ?_
     refine A.backT rfl qD ?_
     refine A.done qk ?_
     refine T.blkN (T.thenN (T.region ?_))
     refine L.move rfl rfl ?_
     refine L.subN rfl rfl rfl (by omega) ?_
     rw [show (k : Int) - 1 = ((k - 1 : Nat) : Int) by omega]
     refine L.assign rfl rfl ?_
     refine L.nil ?_
     refine T.thenN ?_
     refine T.ownEq _ ((sw zs (k) (k - 1)).map eT) qP (by rw [sw, List.map_set, List.map_set]) ?_
     exact T.back ⟨k - 1, sw zs k (k - 1), ⟨by omega, Kp.of (hkp.sm.trans (sw_sm (by omega) (by omega))) (fun q => by have := hS q; omega)⟩, rfl, rfl, rfl, rfl⟩ qI (.cons (t := 17) rfl <| SubK.nil _) (.cons (t := 0) rfl <| .cons (t := 14) rfl <| SubK.nil _) qD qD qF
    ·try simp only [dq] at h110
     refine T.exit (T.thenX (T.thenX (T.blkX (T.thenN (T.ret ?_)))))
     refine T.thenR ?_
     exact T.retN (by simp) rfl ⟨_, rfl, hkp, rfl, rfl⟩ qD qF
  ·try simp only [dq] at h80
   refine T.skip (T.thenN (T.seq (T.region ?_)))
   refine L.move rfl rfl ?_
   refine L.move rfl rfl ?_
   refine L.addN rfl rfl rfl (by omega) ?_
   refine L.convU rfl Tryz.underlying3 Tryz.underlying140 rfl qI ?_
   refine L.shrI rfl rfl rfl qI ?_
   rw [half_eq]
   refine L.convN rfl Tryz.underlying140 Tryz.underlying3 rfl qI ?_
   refine L.assign rfl rfl ?_
   refine L.nil ?_
   refine T.thenN (T.seq (T.region ?_))
   refine L.move rfl rfl ?_
   refine L.move rfl rfl ?_
   refine L.addN rfl rfl rfl (by omega) ?_
   refine L.assign rfl rfl ?_
   refine L.nil ?_
   refine T.thenN (T.seq (T.region ?_))
   refine L.assign rfl rfl ?_
   refine L.assign rfl rfl ?_
   refine L.nil ?_
   refine T.thenN (T.seq (T.seq (T.region ?_)))
   refine L.move rfl rfl ?_
   refine L.move rfl rfl ?_
   refine L.gtI rfl rfl rfl ?_
   refine L.nil ?_
   refine T.thenN ?_
   refine T.cutC (fun K' D' M' => ∃ (st r0 : Nat), (((lo + hi) / 2 < m ∧ st = (lo + hi) / 2 + m - hi ∧ r0 = (lo + hi) / 2) ∨ (m ≤ (lo + hi) / 2 ∧ st = lo ∧ r0 = m)) ∧ K' = [(20, .int .i64 (st : Int)), (21, .int .i64 (r0 : Int))] ∧ D' = [] ∧ M' = []) (M0 := []) (.cons (t := 0) rfl <| .cons (t := 1) rfl <| .cons (t := 2) rfl <| .cons (t := 3) rfl <| .cons (t := 4) rfl <| .cons (t := 18) rfl <| .cons (t := 19) rfl <| SubK.nil _) qS ?_ ?_
   ·skip
    refine T.cond rfl (fun h140 => ?_) (fun h140 => ?_)
    ·try simp only [dq] at h140
     refine T.seq (T.region ?_)
     refine L.move rfl rfl ?_
     refine L.move rfl rfl ?_
     refine L.subN rfl rfl rfl (by omega) ?_
     rw [show ((lo + hi) / 2 : Nat) + (m : Int) - (hi : Int) = (((lo + hi) / 2 + m - hi : Nat) : Int) by omega]
     refine L.assign rfl rfl ?_
     refine L.nil ?_
     refine T.thenN (T.region ?_)
     refine L.move rfl rfl ?_
     refine L.assign rfl rfl ?_
     refine L.nil ?_
     refine T.thenN ?_
     exact T.toJoin ⟨(lo + hi) / 2 + m - hi, (lo + hi) / 2, (by omega), rfl, rfl, rfl⟩ (.cons (t := 20) rfl <| .cons (t := 21) rfl <| SubK.nil _) (.cons (t := 0) rfl <| .cons (t := 1) rfl <| .cons (t := 2) rfl <| .cons (t := 3) rfl <| .cons (t := 4) rfl <| .cons (t := 18) rfl <| .cons (t := 19) rfl <| SubK.nil _) qD qD qF
    ·try simp only [dq] at h140
     refine T.seq (T.region ?_)
     refine L.move rfl rfl ?_
     refine L.assign rfl rfl ?_
     refine L.nil ?_
     refine T.thenN (T.region ?_)
     refine L.move rfl rfl ?_
     refine L.assign rfl rfl ?_
     refine L.nil ?_
     refine T.thenN ?_
     exact T.toJoin ⟨lo, m, (by omega), rfl, rfl, rfl⟩ (.cons (t := 20) rfl <| .cons (t := 21) rfl <| SubK.nil _) (.cons (t := 0) rfl <| .cons (t := 1) rfl <| .cons (t := 2) rfl <| .cons (t := 3) rfl <| .cons (t := 4) rfl <| .cons (t := 18) rfl <| .cons (t := 19) rfl <| SubK.nil _) qD qD qF
   rintro _ _ _ ⟨st, r0, hsr, rfl, rfl, rfl⟩
   refine T.norm3 qA qA qA ?_
   refine T.thenN (T.seq (T.region ?_))
   refine L.move rfl rfl ?_
   refine L.subN rfl rfl rfl (by omega) ?_
   refine L.assign rfl rfl ?_
   refine L.nil ?_
   refine T.thenN (T.seq (T.block ?_))
   refine T.loop (fun K' D' M' μ => ∃ (s r : Nat), ((st ≤ s ∧ s ≤ r ∧ r ≤ r0) ∧ (Srt cf xs → r = r0)) ∧ K' = [(20, .int .i64 s), (21, .int .i64 r)] ∧ D' = [] ∧ M' = [own 4 142 (some ⟨b, o, none⟩) len cap ((xs).map eT)] ∧ μ = r - s) (.cons (t := 0) rfl <| .cons (t := 1) rfl <| .cons (t := 2) rfl <| .cons (t := 3) rfl <| .cons (t := 4) rfl <| .cons (t := 18) rfl <| .cons (t := 19) rfl <| .cons (t := 22) rfl <| SubK.nil _) (⟨st, r0, ⟨by omega, fun _ => rfl⟩, rfl, rfl, rfl, rfl⟩) (.cons (t := 20) rfl <| .cons (t := 21) rfl <| SubK.nil _) qD qS ?_
   rintro K1 D1 M1 m1 ⟨s, r, ⟨hij, hS⟩, rfl, rfl, rfl, rfl⟩
   refine T.norm3 qA qA qA ?_
   refine T.seq (T.seq (T.region ?_))
   refine L.move rfl rfl ?_
   refine L.move rfl rfl ?_
   refine L.ltI rfl rfl rfl ?_
   refine L.nil ?_
   refine T.thenN ?_
   refine T.cond rfl (fun h151 => ?_) (fun h151 => ?_)
   ·try simp only [dq] at h151
    refine T.skip (T.thenN (T.block (T.seq (T.region ?_))))
    refine L.move rfl rfl ?_
    refine L.move rfl rfl ?_
    refine L.addN rfl rfl rfl (by omega) ?_
    refine L.convU rfl Tryz.underlying3 Tryz.underlying140 rfl qI ?_
    refine L.shrI rfl rfl rfl qI ?_
    rw [half_eq]
    refine L.convN rfl Tryz.underlying140 Tryz.underlying3 rfl qI ?_
    refine L.assign rfl rfl ?_
    refine L.nil ?_
    refine T.thenN (T.seq ?_)
    have hg0 : xs[(lo + hi) / 2 + m - 1 - (s + r) / 2]? = some (gd xs ((lo + hi) / 2 + m - 1 - (s + r) / 2)) := gd_get (by omega)
    have hg1 : xs[(s + r) / 2]? = some (gd xs ((s + r) / 2)) := gd_get (by omega)
    refine T.regionQ qk qk ?_
    refine L.move rfl rfl ?_
    refine L.move rfl rfl ?_
    refine L.move rfl rfl ?_
    refine L.move rfl rfl ?_
    refine L.subN rfl rfl rfl (by omega) ?_
    rw [show ((lo + hi) / 2 : Nat) + (m : Int) - 1 - ((s + r) / 2 : Nat) = (((lo + hi) / 2 + m - 1 - (s + r) / 2 : Nat) : Int) by omega]
    refine L.idxG (i := (lo + hi) / 2 + m - 1 - (s + r) / 2) rfl Tryz.underlying22 sz142 rfl rfl (by first | rfl | omega | (simp; done)) qI ?_
    refine L.loadA rfl ag142 rfl qN ?_
    refine L.move rfl rfl ?_
    refine L.move rfl rfl ?_
    refine L.idxG (i := (s + r) / 2) rfl Tryz.underlying22 sz142 rfl rfl (by first | rfl | omega | (simp; done)) qI ?_
    refine L.loadA rfl ag142 rfl qN ?_
    refine L.callVF rfl rfl (evs.cons rfl <| evs.cons rfl <| evs.nil) qD qS (hc (gd xs ((lo + hi) / 2 + m - 1 - (s + r) / 2)) (gd xs ((s + r) / 2))) (by rintro u D1 M1 ⟨rfl, rfl, rfl⟩; exact ⟨rfl, _, qA, qF⟩) ?_
    refine L.ltI rfl rfl rfl ?_
    refine L.notB rfl rfl ?_
    refine L.nilQ ?_
    refine T.thenN ?_
    refine T.cond rfl (fun h171 => ?_) (fun h171 => ?_)
    ·try simp only [dq] at h171
     refine T.region ?_
     refine L.move rfl rfl ?_
     refine L.addN rfl rfl rfl (by omega) ?_
     refine L.assign rfl rfl ?_
     refine L.nil ?_
     refine T.blkN (T.thenN ?_)
     exact T.back ⟨(s + r) / 2 + 1, r, ⟨by omega, hS⟩, rfl, rfl, rfl, rfl⟩ qI (.cons (t := 20) rfl <| .cons (t := 21) rfl <| SubK.nil _) (.cons (t := 0) rfl <| .cons (t := 1) rfl <| .cons (t := 2) rfl <| .cons (t := 3) rfl <| .cons (t := 4) rfl <| .cons (t := 18) rfl <| .cons (t := 19) rfl <| .cons (t := 22) rfl <| SubK.nil _) qD qD qF
    ·try simp only [dq] at h171
     refine T.region ?_
     refine L.move rfl rfl ?_
     refine L.assign rfl rfl ?_
     refine L.nil ?_
     refine T.blkN (T.thenN ?_)
     exact T.back ⟨s, (s + r) / 2, ⟨by omega, fun q => absurd h171 (q ((s + r) / 2) ((lo + hi) / 2 + m - 1 - (s + r) / 2) (by omega) (by omega))⟩, rfl, rfl, rfl, rfl⟩ qI (.cons (t := 20) rfl <| .cons (t := 21) rfl <| SubK.nil _) (.cons (t := 0) rfl <| .cons (t := 1) rfl <| .cons (t := 2) rfl <| .cons (t := 3) rfl <| .cons (t := 4) rfl <| .cons (t := 18) rfl <| .cons (t := 19) rfl <| .cons (t := 22) rfl <| SubK.nil _) qD qD qF
   ·try simp only [dq] at h151
    refine T.exit (T.thenX (T.thenX (T.blkX (T.thenN (T.seq (T.region ?_))))))
    refine L.move rfl rfl ?_
    refine L.move rfl rfl ?_
    refine L.subN rfl rfl rfl (by omega) ?_
    rw [show ((lo + hi) / 2 : Nat) + (m : Int) - (s : Int) = (((lo + hi) / 2 + m - s : Nat) : Int) by omega]
    refine L.assign rfl rfl ?_
    refine L.nil ?_
    refine T.thenN (T.seq (T.seq ?_))
    refine T.cutC (fun K' D' M' => ∃ (q1 : Bool), (q1 = true ↔ (s < m ∧ m < (lo + hi) / 2 + m - s)) ∧ K' = [(185, .bool q1)] ∧ D' = [] ∧ M' = []) (M0 := []) (.cons (t := 0) rfl <| .cons (t := 1) rfl <| .cons (t := 2) rfl <| .cons (t := 3) rfl <| .cons (t := 4) rfl <| .cons (t := 18) rfl <| .cons (t := 20) rfl <| .cons (t := 24) rfl <| SubK.nil _) qS ?_ ?_
    ·skip
     refine T.region ?_
     refine L.move rfl rfl ?_
     refine L.move rfl rfl ?_
     refine L.ltI rfl rfl rfl ?_
     refine L.move rfl rfl ?_
     refine L.part (t := 181) rfl (fun h1 => ?_) (fun h1 => ?_)
     ·try simp only [dq] at h1
      refine L.guardT (dj := 181) rfl rfl rfl ?_
      refine L.move rfl rfl ?_
      refine L.guardT (dj := 181) rfl rfl rfl ?_
      refine L.move rfl rfl ?_
      refine L.guardT (dj := 181) rfl rfl rfl ?_
      refine L.ltI rfl rfl rfl ?_
      refine L.pickT rfl rfl rfl ?_
      refine L.nil ?_
      refine T.thenN ?_
      exact T.toJoin ⟨_, (by simp_all <;> omega), rfl, rfl, rfl⟩ (.cons (t := 185) rfl <| SubK.nil _) (.cons (t := 0) rfl <| .cons (t := 1) rfl <| .cons (t := 2) rfl <| .cons (t := 3) rfl <| .cons (t := 4) rfl <| .cons (t := 18) rfl <| .cons (t := 20) rfl <| .cons (t := 24) rfl <| SubK.nil _) qD qD qF
     ·try simp only [dq] at h1
      refine L.guardF (dj := 181) (c := false) rfl rfl rfl rfl rfl (by decide) ?_
      refine L.guardF (dj := 181) (c := false) rfl rfl rfl rfl rfl (by decide) ?_
      refine L.guardF (dj := 181) (c := false) rfl rfl rfl rfl rfl (by decide) ?_
      refine L.pickF rfl rfl rfl ?_
      refine L.nil ?_
      refine T.thenN ?_
      exact T.toJoin ⟨_, (by simp_all <;> omega), rfl, rfl, rfl⟩ (.cons (t := 185) rfl <| SubK.nil _) (.cons (t := 0) rfl <| .cons (t := 1) rfl <| .cons (t := 2) rfl <| .cons (t := 3) rfl <| .cons (t := 4) rfl <| .cons (t := 18) rfl <| .cons (t := 20) rfl <| .cons (t := 24) rfl <| SubK.nil _) qD qD qF
    rintro _ _ _ ⟨q1, hq1, rfl, rfl, rfl⟩
    refine T.norm3 qA qA qA ?_
    refine T.thenN ?_
    refine T.cutC (fun K' D' M' => ∃ (ys : List ET), (Kp cf xs ys) ∧ K' = [] ∧ D' = [] ∧ M' = [own 4 142 (some ⟨b, o, none⟩) len cap ((ys).map eT)]) (M0 := [own 4 142 (some ⟨b, o, none⟩) len cap ((xs).map eT)]) (.cons (t := 0) rfl <| .cons (t := 1) rfl <| .cons (t := 3) rfl <| .cons (t := 4) rfl <| .cons (t := 18) rfl <| .cons (t := 20) rfl <| .cons (t := 24) rfl <| SubK.nil _) qS ?_ ?_
    ·skip
     refine T.cond rfl (fun h185 => ?_) (fun h185 => ?_)
     ·try simp only [dq] at h185
      have hq := hq1.1 h185
      have hnS : ¬ Srt cf xs := fun q => by have := hS q; omega
      refine T.region ?_
      refine L.move rfl rfl ?_
      refine L.move rfl rfl ?_
      refine L.move rfl rfl ?_
      refine L.move rfl rfl ?_
      refine L.move rfl rfl ?_
      refine L.call rfl (evs.cons rfl <| evs.cons rfl <| evs.cons rfl <| evs.cons rfl <| evs.cons rfl <| evs.nil) qD qS (rot_spec (lo := s) (m := m) (hi := (lo + hi) / 2 + m - s) hb (by omega) (by omega) (by omega)) ?_
      rintro _ _ _ ⟨ys, rfl, hrs, rfl, rfl⟩
      refine L.norm qA qA ?_
      refine L.nil ?_
      refine T.thenN ?_
      exact T.toJoin ⟨_, (Kp.of hrs hnS), rfl, rfl, rfl⟩ (SubK.nil _) (.cons (t := 0) rfl <| .cons (t := 1) rfl <| .cons (t := 3) rfl <| .cons (t := 4) rfl <| .cons (t := 18) rfl <| .cons (t := 20) rfl <| .cons (t := 24) rfl <| SubK.nil _) qD qD qF
     ·try simp only [dq] at h185
      refine T.skip (T.thenN ?_)
      exact T.toJoin ⟨_, (Kp.refl xs), rfl, rfl, rfl⟩ (SubK.nil _) (.cons (t := 0) rfl <| .cons (t := 1) rfl <| .cons (t := 3) rfl <| .cons (t := 4) rfl <| .cons (t := 18) rfl <| .cons (t := 20) rfl <| .cons (t := 24) rfl <| SubK.nil _) qD qD qF
    rintro _ _ _ ⟨ys, hk1, rfl, rfl, rfl⟩
    refine T.norm3 qA qA qA ?_
    refine T.thenN (T.seq (T.seq ?_))
    refine T.cutC (fun K' D' M' => ∃ (q2 : Bool), (q2 = true ↔ (lo < s ∧ s < (lo + hi) / 2)) ∧ K' = [(199, .bool q2)] ∧ D' = [] ∧ M' = []) (M0 := []) (.cons (t := 0) rfl <| .cons (t := 1) rfl <| .cons (t := 3) rfl <| .cons (t := 4) rfl <| .cons (t := 18) rfl <| .cons (t := 20) rfl <| .cons (t := 24) rfl <| SubK.nil _) qS ?_ ?_
    ·skip
     refine T.region ?_
     refine L.move rfl rfl ?_
     refine L.move rfl rfl ?_
     refine L.ltI rfl rfl rfl ?_
     refine L.move rfl rfl ?_
     refine L.part (t := 195) rfl (fun h2 => ?_) (fun h2 => ?_)
     ·try simp only [dq] at h2
      refine L.guardT (dj := 195) rfl rfl rfl ?_
      refine L.move rfl rfl ?_
      refine L.guardT (dj := 195) rfl rfl rfl ?_
      refine L.move rfl rfl ?_
      refine L.guardT (dj := 195) rfl rfl rfl ?_
      refine L.ltI rfl rfl rfl ?_
      refine L.pickT rfl rfl rfl ?_
      refine L.nil ?_
      refine T.thenN ?_
      exact T.toJoin ⟨_, (by simp_all <;> omega), rfl, rfl, rfl⟩ (.cons (t := 199) rfl <| SubK.nil _) (.cons (t := 0) rfl <| .cons (t := 1) rfl <| .cons (t := 3) rfl <| .cons (t := 4) rfl <| .cons (t := 18) rfl <| .cons (t := 20) rfl <| .cons (t := 24) rfl <| SubK.nil _) qD qD qF
     ·try simp only [dq] at h2
      refine L.guardF (dj := 195) (c := false) rfl rfl rfl rfl rfl (by decide) ?_
      refine L.guardF (dj := 195) (c := false) rfl rfl rfl rfl rfl (by decide) ?_
      refine L.guardF (dj := 195) (c := false) rfl rfl rfl rfl rfl (by decide) ?_
      refine L.pickF rfl rfl rfl ?_
      refine L.nil ?_
      refine T.thenN ?_
      exact T.toJoin ⟨_, (by simp_all <;> omega), rfl, rfl, rfl⟩ (.cons (t := 199) rfl <| SubK.nil _) (.cons (t := 0) rfl <| .cons (t := 1) rfl <| .cons (t := 3) rfl <| .cons (t := 4) rfl <| .cons (t := 18) rfl <| .cons (t := 20) rfl <| .cons (t := 24) rfl <| SubK.nil _) qD qD qF
    rintro _ _ _ ⟨q2, hq2, rfl, rfl, rfl⟩
    refine T.norm3 qA qA qA ?_
    refine T.thenN ?_
    refine T.cutC (fun K' D' M' => ∃ (zs : List ET), (Kp cf xs zs) ∧ K' = [] ∧ D' = [] ∧ M' = [own 4 142 (some ⟨b, o, none⟩) len cap ((zs).map eT)]) (M0 := [own 4 142 (some ⟨b, o, none⟩) len cap ((ys).map eT)]) (.cons (t := 0) rfl <| .cons (t := 3) rfl <| .cons (t := 4) rfl <| .cons (t := 18) rfl <| .cons (t := 24) rfl <| SubK.nil _) qS ?_ ?_
    ·skip
     refine T.cond rfl (fun h199 => ?_) (fun h199 => ?_)
     ·try simp only [dq] at h199
      have hq := hq2.1 h199
      refine T.region ?_
      refine L.move rfl rfl ?_
      refine L.move rfl rfl ?_
      refine L.move rfl rfl ?_
      refine L.move rfl rfl ?_
      refine L.move rfl rfl ?_
      refine L.call rfl (evs.cons rfl <| evs.cons rfl <| evs.cons rfl <| evs.cons rfl <| evs.cons rfl <| evs.nil) qD qS (ih lo s ((lo + hi) / 2) ys (by omega) (by omega) (by omega) (by omega)) ?_
      rintro _ _ _ ⟨zs, rfl, hks, rfl, rfl⟩
      refine L.norm qA qA ?_
      refine L.nil ?_
      refine T.thenN ?_
      exact T.toJoin ⟨_, (hk1.trans hks), rfl, rfl, rfl⟩ (SubK.nil _) (.cons (t := 0) rfl <| .cons (t := 3) rfl <| .cons (t := 4) rfl <| .cons (t := 18) rfl <| .cons (t := 24) rfl <| SubK.nil _) qD qD qF
     ·try simp only [dq] at h199
      refine T.skip (T.thenN ?_)
      exact T.toJoin ⟨_, hk1, rfl, rfl, rfl⟩ (SubK.nil _) (.cons (t := 0) rfl <| .cons (t := 3) rfl <| .cons (t := 4) rfl <| .cons (t := 18) rfl <| .cons (t := 24) rfl <| SubK.nil _) qD qD qF
    rintro _ _ _ ⟨zs, hk2, rfl, rfl, rfl⟩
    refine T.norm3 qA qA qA ?_
    refine T.thenN (T.seq ?_)
    refine T.cutC (fun K' D' M' => ∃ (q3 : Bool), (q3 = true ↔ ((lo + hi) / 2 < (lo + hi) / 2 + m - s ∧ (lo + hi) / 2 + m - s < hi)) ∧ K' = [(213, .bool q3)] ∧ D' = [] ∧ M' = []) (M0 := []) (.cons (t := 0) rfl <| .cons (t := 3) rfl <| .cons (t := 4) rfl <| .cons (t := 18) rfl <| .cons (t := 24) rfl <| SubK.nil _) qS ?_ ?_
    ·skip
     refine T.region ?_
     refine L.move rfl rfl ?_
     refine L.move rfl rfl ?_
     refine L.ltI rfl rfl rfl ?_
     refine L.move rfl rfl ?_
     refine L.part (t := 209) rfl (fun h3 => ?_) (fun h3 => ?_)
     ·try simp only [dq] at h3
      refine L.guardT (dj := 209) rfl rfl rfl ?_
      refine L.move rfl rfl ?_
      refine L.guardT (dj := 209) rfl rfl rfl ?_
      refine L.move rfl rfl ?_
      refine L.guardT (dj := 209) rfl rfl rfl ?_
      refine L.ltI rfl rfl rfl ?_
      refine L.pickT rfl rfl rfl ?_
      refine L.nil ?_
      refine T.thenN ?_
      exact T.toJoin ⟨_, (by simp_all <;> omega), rfl, rfl, rfl⟩ (.cons (t := 213) rfl <| SubK.nil _) (.cons (t := 0) rfl <| .cons (t := 3) rfl <| .cons (t := 4) rfl <| .cons (t := 18) rfl <| .cons (t := 24) rfl <| SubK.nil _) qD qD qF
     ·try simp only [dq] at h3
      refine L.guardF (dj := 209) (c := false) rfl rfl rfl rfl rfl (by decide) ?_
      refine L.guardF (dj := 209) (c := false) rfl rfl rfl rfl rfl (by decide) ?_
      refine L.guardF (dj := 209) (c := false) rfl rfl rfl rfl rfl (by decide) ?_
      refine L.pickF rfl rfl rfl ?_
      refine L.nil ?_
      refine T.thenN ?_
      exact T.toJoin ⟨_, (by simp_all <;> omega), rfl, rfl, rfl⟩ (.cons (t := 213) rfl <| SubK.nil _) (.cons (t := 0) rfl <| .cons (t := 3) rfl <| .cons (t := 4) rfl <| .cons (t := 18) rfl <| .cons (t := 24) rfl <| SubK.nil _) qD qD qF
    rintro _ _ _ ⟨q3, hq3, rfl, rfl, rfl⟩
    refine T.norm3 qA qA qA ?_
    refine T.thenN ?_
    refine T.cond rfl (fun h213 => ?_) (fun h213 => ?_)
    ·try simp only [dq] at h213
     have hq := hq3.1 h213
     refine T.region ?_
     refine L.move rfl rfl ?_
     refine L.move rfl rfl ?_
     refine L.move rfl rfl ?_
     refine L.move rfl rfl ?_
     refine L.move rfl rfl ?_
     refine L.call rfl (evs.cons rfl <| evs.cons rfl <| evs.cons rfl <| evs.cons rfl <| evs.cons rfl <| evs.nil) qD qS (ih ((lo + hi) / 2) ((lo + hi) / 2 + m - s) hi zs (by omega) (by omega) (by omega) (by omega)) ?_
     rintro _ _ _ ⟨us, rfl, hks, rfl, rfl⟩
     refine L.norm qA qA ?_
     refine L.nil ?_
     exact T.retN (by simp) rfl ⟨_, rfl, hk2.trans hks, rfl, rfl⟩ qD qF
    ·try simp only [dq] at h213
     refine T.skip ?_
     exact T.retN (by simp) rfl ⟨_, rfl, hk2, rfl, rfl⟩ qD qF
theorem sym_spec {a : Option Addr} {len cap g : Nat} {caps : List Value} {cf : ET → ET → Int} (hC : Cmp cf) (hc : ∀ x y : ET, Spec Tryz.prog g ([.agg (eT x).toArray, .agg (eT y).toArray] ++ caps) [] [] (fun u D' M' => u = .int .i64 (cf x y) ∧ D' = [] ∧ M' = [])) (hb : len ≤ 1000000) : ∀ (n lo m hi : Nat) (xs : List ET), hi - lo = n → lo < m → m < hi → hi ≤ len → SymQ a len cap g caps cf lo m hi xs := by
 intro n
 induction n using Nat.strongRecOn with
 | _ n ih =>
  intro lo m hi xs hn h1 h2 h3
  exact sym_step hC hc (fun lo' m' hi' xs' q1 q2 q3 q4 => ih (hi' - lo') (by omega) lo' m' hi' xs' rfl q2 q3 q4) hb h1 h2 h3
set_option maxHeartbeats 400000 in
theorem stab_spec {a : Option Addr} {len cap g : Nat} {caps : List Value} {cf : ET → ET → Int} {xs : List ET} (hC : Cmp cf) (hc : ∀ x y : ET, Spec Tryz.prog g ([.agg (eT x).toArray, .agg (eT y).toArray] ++ caps) [] [] (fun u D' M' => u = .int .i64 (cf x y) ∧ D' = [] ∧ M' = [])) (hb : len ≤ 1000000) : Spec Tryz.prog 161 [.slice a len cap, .int .i64 (len : Int), fnV g caps] [] [own 4 142 a len cap ((xs).map eT)] (fun v D' M' => ∃ (ys : List ET), v = .tuple #[] ∧ (Kp cf xs ys) ∧ ((len < 20 → (∀ tag : ET → Nat, (∀ p q, p < q → q < xs.length → tag (gd xs p) < tag (gd xs q)) → Pw (Rt cf tag) ys len))) ∧ D' = [] ∧ M' = [own 4 142 a len cap ((ys).map eT)]) := by
 refine Spec.intro (n := 63) Tryz.func161 rfl rfl (by decide) (Nat.le_of_ble_eq_true rfl) rfl (fun _ => qA) (fun _ => qA) ?_
 intro σ D M
 refine T.ownLen qM (fun hl hcc => ?_)
 rw [List.length_map] at hl
 refine T.seq (T.region ?_)
 refine L.assign rfl rfl ?_
 refine L.nil ?_
 refine T.thenN (T.seq (T.region ?_))
 refine L.move rfl rfl ?_
 refine L.assign rfl rfl ?_
 refine L.assign rfl rfl ?_
 refine L.nil ?_
 refine T.thenN (T.seq (T.block ?_))
 refine T.loop (fun K' D' M' μ => ∃ (a1 b1 : Nat) (ys : List ET), ((a1 + 20 = b1 ∧ a1 ≤ len ∧ (a1 = 0 ∨ 20 ≤ a1)) ∧ Kp cf xs ys ∧ (a1 = 0 → ys = xs)) ∧ K' = [(7, .int .i64 (a1 : Int)), (8, .int .i64 (b1 : Int))] ∧ D' = [] ∧ M' = [own 4 142 a len cap ((ys).map eT)] ∧ μ = len + 20 - b1) (.cons (t := 0) rfl <| .cons (t := 1) rfl <| .cons (t := 2) rfl <| .cons (t := 6) rfl <| SubK.nil _) (⟨0, 20, xs, ⟨by omega, .refl _, fun _ => rfl⟩, rfl, rfl, rfl, rfl⟩) (.cons (t := 7) rfl <| .cons (t := 8) rfl <| SubK.nil _) qD qS ?_
 rintro K1 D1 M1 m1 ⟨a1, b1, ys, ⟨hab, hk, h0⟩, rfl, rfl, rfl, rfl⟩
 refine T.norm3 qA qA qA ?_
 have hyl := hk.sm.1
 refine T.seq (T.seq (T.region ?_))
 refine L.move rfl rfl ?_
 refine L.move rfl rfl ?_
 refine L.leI rfl rfl rfl ?_
 refine L.nil ?_
 refine T.thenN ?_
 refine T.cond rfl (fun h13 => ?_) (fun h13 => ?_)
 ·try simp only [dq] at h13
  refine T.skip (T.thenN (T.block (T.seq (T.region ?_))))
  refine L.move rfl rfl ?_
  refine L.move rfl rfl ?_
  refine L.move rfl rfl ?_
  refine L.move rfl rfl ?_
  refine L.call rfl (evs.cons rfl <| evs.cons rfl <| evs.cons rfl <| evs.cons rfl <| evs.nil) qD qS (ins_spec hC hc (lo := a1) (hi := b1) hb (by omega) (by omega)) ?_
  rintro _ _ _ ⟨ys2, rfl, hk2, hs2, rfl, rfl⟩
  refine L.norm qA qA ?_
  refine L.nil ?_
  refine T.thenN (T.seq (T.region ?_))
  refine L.move rfl rfl ?_
  refine L.assign rfl rfl ?_
  refine L.nil ?_
  refine T.thenN (T.region ?_)
  refine L.move rfl rfl ?_
  refine L.move rfl rfl ?_
  refine L.addN rfl rfl rfl (by omega) ?_
  refine L.assign rfl rfl ?_
  refine L.nil ?_
  refine T.blkN (T.thenN ?_)
  exact T.back ⟨b1, b1 + 20, _, ⟨by omega, hk.trans hk2, fun q => by omega⟩, rfl, rfl, rfl, rfl⟩ qI (.cons (t := 7) rfl <| .cons (t := 8) rfl <| SubK.nil _) (.cons (t := 0) rfl <| .cons (t := 1) rfl <| .cons (t := 2) rfl <| .cons (t := 6) rfl <| SubK.nil _) qD qD qF
 ·try simp only [dq] at h13
  refine T.exit (T.thenX (T.thenX (T.blkX (T.thenN (T.seq (T.region ?_))))))
  refine L.move rfl rfl ?_
  refine L.move rfl rfl ?_
  refine L.move rfl rfl ?_
  refine L.move rfl rfl ?_
  refine L.call rfl (evs.cons rfl <| evs.cons rfl <| evs.cons rfl <| evs.cons rfl <| evs.nil) qD qS (ins_spec hC hc (lo := a1) (hi := len) hb (by omega) (by omega)) ?_
  rintro _ _ _ ⟨ys2, rfl, hk2, hs2, rfl, rfl⟩
  refine L.norm qA qA ?_
  refine L.nil ?_
  refine T.thenN (T.block ?_)
  refine T.loop (fun K' D' M' μ => ∃ (bs : Nat) (zs : List ET), (20 ≤ bs ∧ Kp cf xs zs ∧ (len < 20 → (∀ tag : ET → Nat, (∀ p q, p < q → q < xs.length → tag (gd xs p) < tag (gd xs q)) → Pw (Rt cf tag) zs len))) ∧ K' = [(6, .int .i64 (bs : Int))] ∧ D' = [] ∧ M' = [own 4 142 a len cap ((zs).map eT)] ∧ μ = len - bs) (.cons (t := 0) rfl <| .cons (t := 1) rfl <| .cons (t := 2) rfl <| SubK.nil _) (⟨20, _, ⟨by omega, hk.trans hk2, fun q => (by have e := h0 (by omega); rw [e] at hs2; exact hs2 (by omega) rfl)⟩, rfl, rfl, rfl, rfl⟩) (.cons (t := 6) rfl <| SubK.nil _) qD qS ?_
  rintro K1 D1 M1 m1 ⟨bs, zs, ⟨hbs, hk3, hs3⟩, rfl, rfl, rfl, rfl⟩
  refine T.norm3 qA qA qA ?_
  have hzl := hk3.sm.1
  refine T.seq (T.seq (T.region ?_))
  refine L.move rfl rfl ?_
  refine L.move rfl rfl ?_
  refine L.ltI rfl rfl rfl ?_
  refine L.nil ?_
  refine T.thenN ?_
  refine T.cond rfl (fun h30 => ?_) (fun h30 => ?_)
  ·try simp only [dq] at h30
   refine T.skip (T.thenN (T.block (T.seq (T.region ?_))))
   refine L.move rfl rfl ?_
   refine L.mulN rfl rfl rfl (by omega) ?_
   refine L.assign rfl rfl ?_
   refine L.assign rfl rfl ?_
   refine L.nil ?_
   refine T.thenN (T.seq (T.block ?_))
   refine T.loop (fun K' D' M' μ => ∃ (a2 b2 : Nat) (us : List ET), ((a2 + 2 * bs = b2 ∧ a2 ≤ len) ∧ Kp cf xs us) ∧ K' = [(7, .int .i64 (a2 : Int)), (8, .int .i64 (b2 : Int))] ∧ D' = [] ∧ M' = [own 4 142 a len cap ((us).map eT)] ∧ μ = len + 2 * bs - b2) (.cons (t := 0) rfl <| .cons (t := 1) rfl <| .cons (t := 2) rfl <| .cons (t := 6) rfl <| SubK.nil _) (⟨0, 2 * bs, _, ⟨by omega, hk3⟩, rfl, rfl, rfl, rfl⟩) (.cons (t := 7) rfl <| .cons (t := 8) rfl <| SubK.nil _) qD qS ?_
   rintro K1 D1 M1 m1 ⟨a2, b2, us, ⟨hab2, hk4⟩, rfl, rfl, rfl, rfl⟩
   refine T.norm3 qA qA qA ?_
   have hul := hk4.sm.1
   refine T.seq (T.seq (T.region ?_))
   refine L.move rfl rfl ?_
   refine L.move rfl rfl ?_
   refine L.leI rfl rfl rfl ?_
   refine L.nil ?_
   refine T.thenN ?_
   refine T.cond rfl (fun h35 => ?_) (fun h35 => ?_)
   ·try simp only [dq] at h35
    refine T.skip (T.thenN (T.block (T.seq (T.region ?_))))
    refine L.move rfl rfl ?_
    refine L.move rfl rfl ?_
    refine L.move rfl rfl ?_
    refine L.move rfl rfl ?_
    refine L.addN rfl rfl rfl (by omega) ?_
    skip
    refine L.move rfl rfl ?_
    refine L.move rfl rfl ?_
    refine L.call rfl (evs.cons rfl <| evs.cons rfl <| evs.cons rfl <| evs.cons rfl <| evs.cons rfl <| evs.nil) qD qS (sym_spec hC hc hb (b2 - a2) a2 (a2 + bs) b2 us rfl (by omega) (by omega) (by omega)) ?_
    rintro _ _ _ ⟨us2, rfl, hk2, rfl, rfl⟩
    refine L.norm qA qA ?_
    refine L.nil ?_
    refine T.thenN (T.seq (T.region ?_))
    refine L.move rfl rfl ?_
    refine L.assign rfl rfl ?_
    refine L.nil ?_
    refine T.thenN (T.region ?_)
    refine L.move rfl rfl ?_
    refine L.move rfl rfl ?_
    refine L.mulN rfl rfl rfl (by omega) ?_
    refine L.addN rfl rfl rfl (by omega) ?_
    refine L.assign rfl rfl ?_
    refine L.nil ?_
    refine T.blkN (T.thenN ?_)
    exact T.back ⟨b2, b2 + 2 * bs, _, ⟨by omega, hk4.trans hk2⟩, rfl, rfl, rfl, rfl⟩ qI (.cons (t := 7) rfl <| .cons (t := 8) rfl <| SubK.nil _) (.cons (t := 0) rfl <| .cons (t := 1) rfl <| .cons (t := 2) rfl <| .cons (t := 6) rfl <| SubK.nil _) qD qD qF
   ·try simp only [dq] at h35
    refine T.exit (T.thenX (T.thenX (T.blkX (T.thenN (T.seq (T.seq (T.region ?_)))))))
    refine L.move rfl rfl ?_
    refine L.move rfl rfl ?_
    refine L.addN rfl rfl rfl (by omega) ?_
    refine L.assign rfl rfl ?_
    refine L.nil ?_
    refine T.thenN (T.seq (T.region ?_))
    refine L.move rfl rfl ?_
    refine L.move rfl rfl ?_
    refine L.ltI rfl rfl rfl ?_
    refine L.nil ?_
    refine T.thenN ?_
    refine T.cutC (fun K' D' M' => ∃ (us5 : List ET), (Kp cf xs us5) ∧ K' = [] ∧ D' = [] ∧ M' = [own 4 142 a len cap ((us5).map eT)]) (M0 := [own 4 142 a len cap ((us).map eT)]) (.cons (t := 0) rfl <| .cons (t := 1) rfl <| .cons (t := 2) rfl <| .cons (t := 6) rfl <| SubK.nil _) qS ?_ ?_
    ·skip
     refine T.cond rfl (fun h54 => ?_) (fun h54 => ?_)
     ·try simp only [dq] at h54
      refine T.region ?_
      refine L.move rfl rfl ?_
      refine L.move rfl rfl ?_
      refine L.move rfl rfl ?_
      refine L.move rfl rfl ?_
      refine L.move rfl rfl ?_
      refine L.call rfl (evs.cons rfl <| evs.cons rfl <| evs.cons rfl <| evs.cons rfl <| evs.cons rfl <| evs.nil) qD qS (sym_spec hC hc hb (len - a2) a2 (a2 + bs) len us rfl (by omega) (by omega) (by omega)) ?_
      rintro _ _ _ ⟨us2, rfl, hk2, rfl, rfl⟩
      refine L.norm qA qA ?_
      refine L.nil ?_
      refine T.thenN ?_
      exact T.toJoin ⟨_, (hk4.trans hk2), rfl, rfl, rfl⟩ (SubK.nil _) (.cons (t := 0) rfl <| .cons (t := 1) rfl <| .cons (t := 2) rfl <| .cons (t := 6) rfl <| SubK.nil _) qD qD qF
     ·try simp only [dq] at h54
      refine T.skip (T.thenN ?_)
      exact T.toJoin ⟨_, hk4, rfl, rfl, rfl⟩ (SubK.nil _) (.cons (t := 0) rfl <| .cons (t := 1) rfl <| .cons (t := 2) rfl <| .cons (t := 6) rfl <| SubK.nil _) qD qD qF
    rintro _ _ _ ⟨us5, hk5, rfl, rfl, rfl⟩
    refine T.norm3 qA qA qA ?_
    refine T.thenN (T.region ?_)
    refine L.move rfl rfl ?_
    refine L.mulN rfl rfl rfl (by omega) ?_
    refine L.assign rfl rfl ?_
    refine L.nil ?_
    refine T.blkN (T.thenN ?_)
    exact T.back ⟨bs * 2, _, ⟨by omega, hk5, fun q => by omega⟩, rfl, rfl, rfl, rfl⟩ qI (.cons (t := 6) rfl <| SubK.nil _) (.cons (t := 0) rfl <| .cons (t := 1) rfl <| .cons (t := 2) rfl <| SubK.nil _) qD qD qF
  ·try simp only [dq] at h30
   refine T.exit (T.thenX (T.thenX (T.blkX ?_)))
   exact T.retN (by simp) rfl ⟨_, rfl, hk3, hs3, rfl, rfl⟩ qD qF
set_option maxHeartbeats 400000 in
theorem sstab_spec {a : Option Addr} {len cap g : Nat} {caps : List Value} {cf : ET → ET → Int} {xs : List ET} (hC : Cmp cf) (hc : ∀ x y : ET, Spec Tryz.prog g ([.agg (eT x).toArray, .agg (eT y).toArray] ++ caps) [] [] (fun u D' M' => u = .int .i64 (cf x y) ∧ D' = [] ∧ M' = [])) (hb : len ≤ 1000000) : Spec Tryz.prog 129 [.slice a len cap, fnV g caps] [] [own 4 142 a len cap ((xs).map eT)] (fun v D' M' => ∃ (ys : List ET), v = .tuple #[] ∧ (Kp cf xs ys) ∧ ((len < 20 → (∀ tag : ET → Nat, (∀ p q, p < q → q < xs.length → tag (gd xs p) < tag (gd xs q)) → Pw (Rt cf tag) ys len))) ∧ D' = [] ∧ M' = [own 4 142 a len cap ((ys).map eT)]) := by
 refine Spec.intro (n := 9) Tryz.func129 rfl rfl (by decide) (Nat.le_of_ble_eq_true rfl) rfl (fun _ => qA) (fun _ => qA) ?_
 intro σ D M
 refine T.region ?_
 refine L.move rfl rfl ?_
 refine L.move rfl rfl ?_
 refine L.lenSl rfl Tryz.underlying22 rfl ?_
 refine L.move rfl rfl ?_
 refine L.call rfl (evs.cons rfl <| evs.cons rfl <| evs.cons rfl <| evs.nil) qD qS (stab_spec hC hc hb) ?_
 rintro _ _ _ ⟨ys, rfl, hk, hs, rfl, rfl⟩
 refine L.norm qA qA ?_
 refine L.nil ?_
 exact T.retN (by simp) rfl ⟨_, rfl, hk, hs, rfl, rfl⟩ qD qF
end Cv
