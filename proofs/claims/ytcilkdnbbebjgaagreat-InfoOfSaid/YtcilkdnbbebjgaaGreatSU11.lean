/-
  The walks: the reference of names.
-/
import Derived.Test.YtcilkdnbbebjgaaGreatQa11
import Derived.Test.YtcilkdnbbebjgaaGreatG06
import Derived.Test.YtcilkdnbbebjgaaGreatProg
import Derived.KernelRfl
set_option linter.unusedVariables false
set_option linter.unusedSimpArgs false
set_option linter.unusedSectionVars false
set_option maxRecDepth 10000
namespace Cv
open Go Go.Proofs
/-! ## the reference's reader of names: plain -/
end Cv
set_option maxRecDepth 10000
namespace Cv
open Go Go.Proofs
@[reducible] def inR (p : Pt) (a : Option Addr) (n c : Nat) : List Value := [S p.1.1, .int .i64 p.2, .slice a n c]
theorem gd_map {l : List ID32} {i : Nat} (h : i < l.length) : (l.map (·.1))[i]? = some (gd l i).1 := by
  rw [List.getElem?_map, gd_get h]; rfl
theorem fo43_0 : Fo Tryz.prog 43 0 0 := fun a w => by kernel_rfl
theorem fo41_1 : Fo Tryz.prog 41 1 1 := fun a w => by kernel_rfl
theorem fo43_1 : Fo Tryz.prog 43 1 2 := fun a w => by kernel_rfl
end Cv
set_option maxRecDepth 10000
namespace Cv
open Go Go.Proofs
theorem zv43 : ∀ w, (zeroValue 43).run Tryz.prog w = .ok (Value.agg #[S [], Value.int .i64 0, Value.slice none 0 0]) w := fun w => by kernel_rfl
theorem ze43 : Ze Tryz.prog 43 [S [], Value.int .i64 0, Value.slice none 0 0] := ⟨_, rfl, zv43⟩
theorem zv41 : ∀ w, (zeroValue 41).run Tryz.prog w = .ok (Value.agg #[S [], Value.int .i64 0]) w := fun w => by kernel_rfl
theorem bu41 : Bu Tryz.prog 41 [S [], Value.int .i64 0] (fun (i : Nat) => ([(0, 1), (1, 1)] : List (Nat × Nat))[i]?) := bu_of Tryz.underlying41 zv41 rfl (fun w => by kernel_rfl)
theorem bu43 : Bu Tryz.prog 43 [S [], Value.int .i64 0, Value.slice none 0 0] (fun (i : Nat) => ([(0, 2), (2, 1)] : List (Nat × Nat))[i]?) := bu_of Tryz.underlying43 zv43 rfl (fun w => by kernel_rfl)
theorem ag43 : Ag Tryz.prog 43 3 := fun w => ⟨by kernel_rfl, by kernel_rfl⟩
set_option maxHeartbeats 400000 in
theorem told11_spec {a : Option Addr} {n c : Nat} {l : List ID32} {p : Pt} (hn : n ≤ 1000000) : Spec Tryz.prog 15 [.agg (inC p a n c).toArray] [rsl 32 a n c (l.map iC)] [] (fun v D' M' => ∃ (a' : Option Addr) (c' : Nat), v = .agg (inR p a' n c').toArray ∧ D' = [] ∧ M' = [own 1 9 a' n c' ((l.map (·.1)).map ys)]) := by
 refine Spec.intro (n := 31) Tryz.func15 rfl rfl (by decide) (Nat.le_of_ble_eq_true rfl) rfl (fun _ => qA) (fun _ => qA) ?_
 intro σ D M
 refine T.rslLen2 (rows := l.map iC) qM (fun hpl hpc => ?_)
 rw [List.length_map] at hpl
 have hp3 := inC_len p a n c
 have hp32 := p.1.2
 refine T.seq (T.region ?_)
 refine L.box rfl rfl rfl (fun b1 => ?_)
 refine L.alloc rfl ze43 (fun b2 => ?_)
 refine L.nil ?_
 refine T.freeze (A := cl b1 35 (inC p a n c)) qP ?_
 refine T.thenN (T.seq ?_)
 refine T.regionA (clsL [1, 1, 1, 2, 1, 1, 1, 1, 1, 2, 2]) qk ?_
 refine A.takeP (i := 0) rfl rfl rfl rfl qk qk qk rfl qD ?_
 first | refine L.field0 rfl fo35_0 rfl ?_ | refine L.field rfl fo35_0 rfl ?_
 refine A.took ?_
 refine A.takeP (i := 1) rfl rfl rfl rfl qk qk qk rfl qD ?_
 first | refine L.field0 rfl fo33_0 rfl ?_ | refine L.field rfl fo33_0 rfl ?_
 refine A.took ?_
 refine A.takeP (i := 2) rfl rfl rfl rfl qk qk qk rfl qD ?_
 refine L.loadA rfl ag31 rfl qN ?_
 refine A.took ?_
 refine A.takeP (i := 4) rfl rfl rfl rfl qk qk qk rfl qD ?_
 first | refine L.field0 rfl fo35_0 rfl ?_ | refine L.field rfl fo35_0 rfl ?_
 refine A.took ?_
 refine A.takeP (i := 5) rfl rfl rfl rfl qk qk qk rfl qD ?_
 first | refine L.field0 rfl fo33_1 rfl ?_ | refine L.field rfl fo33_1 rfl ?_
 refine A.took ?_
 refine A.takeP (i := 6) rfl rfl rfl rfl qk qk qk rfl qD ?_
 refine L.load rfl sc3 rfl qC ?_
 refine A.took ?_
 refine A.branch (is := [3, 9]) qk (by decide) (Each.cons rfl ?_ <| Each.cons rfl ?_ <| Each.nil) 
 ·skip
  refine L.callF rfl (evs.cons rfl <| evs.nil) qD qS (obytes_spec (l := p.1.1) hp32) (by rintro u D1 M1 ⟨rfl, rfl, rfl⟩; exact ⟨rfl, _, qA, qF⟩) ?_
  refine A.backT rfl qD ?_
  refine A.takeP (i := 7) rfl rfl rfl rfl qk qk qk rfl qD ?_
  refine L.build rfl bu41 (BP.one rfl rfl rfl <| BP.one rfl rfl rfl <| BP.doneE (out := []) rfl) ?_
  refine A.took ?_
  refine A.takeP (i := 8) rfl rfl rfl rfl qk qk qk rfl qD ?_
  refine L.build rfl bu43 (BP.agg rfl rfl (by first | with_reducible assumption | (simp; done) | (simp only [List.length_map]; with_reducible assumption) | (simp [*]; done) | rfl) (Nat.le_of_ble_eq_true rfl) qR <| BP.doneE (out := [Value.slice none 0 0]) rfl) ?_
  refine A.took ?_
  refine A.branch (is := [9]) qk (by decide) (Each.cons rfl ?_ <| Each.nil) 
  refine L.alloc rfl ze43 (fun b3 => ?_)
  refine A.backT rfl qD ?_
  refine A.branch (is := [10]) qk (by decide) (Each.cons rfl ?_ <| Each.nil) 
  refine L.storeA ag43 rfl rfl qL qO qU qW ?_
  refine A.backT rfl qD ?_
  refine A.done qk ?_
  refine T.newOwn (sz := 1) (e := 9) ?_
  refine T.eqv qP (show own 1 9 none 0 0 [] = own 1 9 none 0 0 (((l.take 0).map (·.1)).map ys) from rfl) ?_
  refine T.clEq b3 (inR p none 0 0) qP (by rfl) ?_
  refine T.thenN (T.seq (T.seq (T.region ?_)))
  first | refine L.field0 rfl fo35_1 rfl ?_ | refine L.field rfl fo35_1 rfl ?_
  refine L.load rfl sc27 rfl qC ?_
  refine L.lenSl rfl Tryz.underlying27 rfl ?_
  refine L.move rfl rfl ?_
  refine L.nil ?_
  refine T.thenN (T.block ?_)
  refine T.loop (fun K' D' M' μ => ∃ (i c3 : Nat) (a3 : Option Addr), (i ≤ n) ∧ K' = [(18, .int .i64 (i : Int))] ∧ D' = [] ∧ M' = [cl b3 43 (inR p a3 i c3), own 1 9 a3 i c3 (((l.take i).map (·.1)).map ys)] ∧ μ = n - i) (.cons (t := 2) rfl <| .cons (t := 3) rfl <| .cons (t := 16) rfl <| .cons (t := 17) rfl <| SubK.nil _) (⟨0, 0, none, Nat.zero_le _, rfl, rfl, rfl, rfl⟩) (.cons (t := 18) rfl <| SubK.nil _) qD qS ?_
  rintro K1 D1 M1 m1 ⟨i, c3, a3, hi, rfl, rfl, rfl, rfl⟩
  refine T.norm3 qA qA qA ?_
  refine T.seq (T.region ?_)
  refine L.ltI rfl rfl rfl ?_
  refine L.nil ?_
  refine T.thenN (T.seq ?_)
  refine T.cond rfl (fun h19 => ?_) (fun h19 => ?_)
  ·try simp only [dq] at h19
   refine T.skip (T.thenN (T.seq (T.block (T.seq ?_))))
   have hgi : l[i]? = some (gd l i) := gd_get (by omega)
   obtain ⟨x, hx_⟩ : ∃ x, x = gd l i := ⟨_, rfl⟩
   rw [← hx_] at hgi
   have hgr : (l.map iC)[i]? = some (iC x) := map_get hgi
   have hx := x.2
   have hx3 := iC_len x
   refine T.region ?_
   refine L.idx (i := i) rfl Tryz.underlying27 sz31 rfl rfl qM (by first | rfl | omega | (simp; done)) qG (fun b20 o20 => ?_)
   refine L.loadA rfl ag31 rfl (CellsN.ofD qM hx3) ?_
   refine L.alloc rfl ze31 (fun b5 => ?_)
   refine L.storeA ag31 rfl rfl qL qO qU qW ?_
   refine L.nil ?_
   refine T.thenN ?_
   refine T.freeze (A := cl b5 31 (iC x)) qP ?_
   refine T.regionA (clsL [1, 2, 1, 2, 2, 2, 1, 2]) qk ?_
   refine A.takeP (i := 0) rfl rfl rfl rfl qk qk qk rfl qD ?_
   first | refine L.field0 rfl fo43_1 rfl ?_ | refine L.field rfl fo43_1 rfl ?_
   refine A.took ?_
   refine A.takeP (i := 2) rfl rfl rfl rfl qk qk qk rfl qD ?_
   refine L.loadA rfl ag31 rfl qN ?_
   refine A.took ?_
   refine A.branch (is := [1, 3]) qk (by decide) (Each.cons rfl ?_ <| Each.cons rfl ?_ <| Each.nil) 
   ·skip
    refine L.load rfl sc25 rfl qC ?_
    refine A.backT rfl qD ?_
    refine A.branch (is := [3]) qk (by decide) (Each.cons rfl ?_ <| Each.nil) 
    refine L.callF rfl (evs.cons rfl <| evs.nil) qD qS (obytes_spec (l := x.1) hx) (by rintro u D1 M1 ⟨rfl, rfl, rfl⟩; exact ⟨rfl, _, qA, qF⟩) ?_
    refine A.backT rfl qD ?_
    refine A.branch (is := [4]) qk (by decide) (Each.cons rfl ?_ <| Each.nil) 
    refine L.buildSlice rfl bs25 (by decide) (BP.one rfl rfl rfl <| BP.doneE (out := []) rfl) (fun b26 => ?_)
    refine A.backT rfl qD ?_
    refine A.branch (is := [5]) qk (by decide) (Each.cons rfl ?_ <| Each.nil) 
    refine L.append1 rfl Tryz.underlying25 el9 rfl rfl qP qM rfl qO1 qI qI (fun a27 c27 => ?_)
    refine A.backT rfl qD ?_
    refine A.takeP (i := 6) rfl rfl rfl rfl qk qk qk rfl qD ?_
    first | refine L.field0 rfl fo43_1 rfl ?_ | refine L.field rfl fo43_1 rfl ?_
    refine A.took ?_
    refine A.branch (is := [7]) qk (by decide) (Each.cons rfl ?_ <| Each.nil) 
    refine L.store sc25 rfl rfl rfl qU qE ?_
    refine A.backT rfl qD ?_
    refine A.done qk ?_
    refine T.blkN (T.thenN (T.region ?_))
    refine L.addN rfl rfl rfl (by omega) ?_
    refine L.move rfl rfl ?_
    refine L.nil ?_
    refine T.thenN ?_
    refine T.ownEq _ (((l.take (i + 1)).map (·.1)).map ys) qP (by rw [List.take_add_one, hgi]; simp) ?_
    exact T.back ⟨i + 1, _, _, (by omega), rfl, rfl, rfl, rfl⟩ qI (.cons (t := 18) rfl <| SubK.nil _) (.cons (t := 2) rfl <| .cons (t := 3) rfl <| .cons (t := 16) rfl <| .cons (t := 17) rfl <| SubK.nil _) qD qD qF
   ·skip
    refine L.callF rfl (evs.cons rfl <| evs.nil) qD qS (obytes_spec (l := x.1) hx) (by rintro u D1 M1 ⟨rfl, rfl, rfl⟩; exact ⟨rfl, _, qA, qF⟩) ?_
    refine A.backT rfl qD ?_
    refine A.branch (is := [1, 4]) qk (by decide) (Each.cons rfl ?_ <| Each.cons rfl ?_ <| Each.nil) 
    ·skip
     refine L.load rfl sc25 rfl qC ?_
     refine A.backT rfl qD ?_
     refine A.branch (is := [4]) qk (by decide) (Each.cons rfl ?_ <| Each.nil) 
     refine L.buildSlice rfl bs25 (by decide) (BP.one rfl rfl rfl <| BP.doneE (out := []) rfl) (fun b26 => ?_)
     refine A.backT rfl qD ?_
     refine A.branch (is := [5]) qk (by decide) (Each.cons rfl ?_ <| Each.nil) 
     refine L.append1 rfl Tryz.underlying25 el9 rfl rfl qP qM rfl qO1 qI qI (fun a27 c27 => ?_)
     refine A.backT rfl qD ?_
     refine A.takeP (i := 6) rfl rfl rfl rfl qk qk qk rfl qD ?_
     first | refine L.field0 rfl fo43_1 rfl ?_ | refine L.field rfl fo43_1 rfl ?_
     refine A.took ?_
     refine A.branch (is := [7]) qk (by decide) (Each.cons rfl ?_ <| Each.nil) 
     refine L.store sc25 rfl rfl rfl qU qE ?_
     refine A.backT rfl qD ?_
     refine A.done qk ?_
     refine T.blkN (T.thenN (T.region ?_))
     refine L.addN rfl rfl rfl (by omega) ?_
     refine L.move rfl rfl ?_
     refine L.nil ?_
     refine T.thenN ?_
     refine T.ownEq _ (((l.take (i + 1)).map (·.1)).map ys) qP (by rw [List.take_add_one, hgi]; simp) ?_
     exact T.back ⟨i + 1, _, _, (by omega), rfl, rfl, rfl, rfl⟩ qI (.cons (t := 18) rfl <| SubK.nil _) (.cons (t := 2) rfl <| .cons (t := 3) rfl <| .cons (t := 16) rfl <| .cons (t := 17) rfl <| SubK.nil _) qD qD qF
    ·skip
     refine L.buildSlice rfl bs25 (by decide) (BP.one rfl rfl rfl <| BP.doneE (out := []) rfl) (fun b26 => ?_)
     refine A.backT rfl qD ?_
     refine A.branch (is := [1]) qk (by decide) (Each.cons rfl ?_ <| Each.nil) 
     refine L.load rfl sc25 rfl qC ?_
     refine A.backT rfl qD ?_
     refine A.branch (is := [5]) qk (by decide) (Each.cons rfl ?_ <| Each.nil) 
     refine L.append1 rfl Tryz.underlying25 el9 rfl rfl qP qM rfl qO1 qI qI (fun a27 c27 => ?_)
     refine A.backT rfl qD ?_
     refine A.takeP (i := 6) rfl rfl rfl rfl qk qk qk rfl qD ?_
     first | refine L.field0 rfl fo43_1 rfl ?_ | refine L.field rfl fo43_1 rfl ?_
     refine A.took ?_
     refine A.branch (is := [7]) qk (by decide) (Each.cons rfl ?_ <| Each.nil) 
     refine L.store sc25 rfl rfl rfl qU qE ?_
     refine A.backT rfl qD ?_
     refine A.done qk ?_
     refine T.blkN (T.thenN (T.region ?_))
     refine L.addN rfl rfl rfl (by omega) ?_
     refine L.move rfl rfl ?_
     refine L.nil ?_
     refine T.thenN ?_
     refine T.ownEq _ (((l.take (i + 1)).map (·.1)).map ys) qP (by rw [List.take_add_one, hgi]; simp) ?_
     exact T.back ⟨i + 1, _, _, (by omega), rfl, rfl, rfl, rfl⟩ qI (.cons (t := 18) rfl <| SubK.nil _) (.cons (t := 2) rfl <| .cons (t := 3) rfl <| .cons (t := 16) rfl <| .cons (t := 17) rfl <| SubK.nil _) qD qD qF
  ·try simp only [dq] at h19
   obtain rfl : i = n := by omega
   rw [List.take_of_length_le (by omega)]
   refine T.exit (T.thenX (T.thenX (T.blkX (T.thenN (T.seq (T.region ?_))))))
   refine L.loadA rfl ag43 rfl qN ?_
   refine L.storeA ag43 rfl rfl qL qO qU qW ?_
   refine L.nil ?_
   refine T.thenN (T.ret ?_)
   exact T.retA rfl ag43 rfl qN ⟨_, _, rfl, rfl, rfl⟩ qD qF
 ·skip
  refine L.alloc rfl ze43 (fun b3 => ?_)
  refine A.backT rfl qD ?_
  refine A.branch (is := [3]) qk (by decide) (Each.cons rfl ?_ <| Each.nil) 
  refine L.callF rfl (evs.cons rfl <| evs.nil) qD qS (obytes_spec (l := p.1.1) hp32) (by rintro u D1 M1 ⟨rfl, rfl, rfl⟩; exact ⟨rfl, _, qA, qF⟩) ?_
  refine A.backT rfl qD ?_
  refine A.takeP (i := 7) rfl rfl rfl rfl qk qk qk rfl qD ?_
  refine L.build rfl bu41 (BP.one rfl rfl rfl <| BP.one rfl rfl rfl <| BP.doneE (out := []) rfl) ?_
  refine A.took ?_
  refine A.takeP (i := 8) rfl rfl rfl rfl qk qk qk rfl qD ?_
  refine L.build rfl bu43 (BP.agg rfl rfl (by first | with_reducible assumption | (simp; done) | (simp only [List.length_map]; with_reducible assumption) | (simp [*]; done) | rfl) (Nat.le_of_ble_eq_true rfl) qR <| BP.doneE (out := [Value.slice none 0 0]) rfl) ?_
  refine A.took ?_
  refine A.branch (is := [10]) qk (by decide) (Each.cons rfl ?_ <| Each.nil) 
  refine L.storeA ag43 rfl rfl qL qO qU qW ?_
  refine A.backT rfl qD ?_
  refine A.done qk ?_
  refine T.newOwn (sz := 1) (e := 9) ?_
  refine T.eqv qP (show own 1 9 none 0 0 [] = own 1 9 none 0 0 (((l.take 0).map (·.1)).map ys) from rfl) ?_
  refine T.clEq b3 (inR p none 0 0) qP (by rfl) ?_
  refine T.thenN (T.seq (T.seq (T.region ?_)))
  first | refine L.field0 rfl fo35_1 rfl ?_ | refine L.field rfl fo35_1 rfl ?_
  refine L.load rfl sc27 rfl qC ?_
  refine L.lenSl rfl Tryz.underlying27 rfl ?_
  refine L.move rfl rfl ?_
  refine L.nil ?_
  refine T.thenN (T.block ?_)
  refine T.loop (fun K' D' M' μ => ∃ (i c3 : Nat) (a3 : Option Addr), (i ≤ n) ∧ K' = [(18, .int .i64 (i : Int))] ∧ D' = [] ∧ M' = [cl b3 43 (inR p a3 i c3), own 1 9 a3 i c3 (((l.take i).map (·.1)).map ys)] ∧ μ = n - i) (.cons (t := 2) rfl <| .cons (t := 3) rfl <| .cons (t := 16) rfl <| .cons (t := 17) rfl <| SubK.nil _) (⟨0, 0, none, Nat.zero_le _, rfl, rfl, rfl, rfl⟩) (.cons (t := 18) rfl <| SubK.nil _) qD qS ?_
  rintro K1 D1 M1 m1 ⟨i, c3, a3, hi, rfl, rfl, rfl, rfl⟩
  refine T.norm3 qA qA qA ?_
  refine T.seq (T.region ?_)
  refine L.ltI rfl rfl rfl ?_
  refine L.nil ?_
  refine T.thenN (T.seq ?_)
  refine T.cond rfl (fun h19 => ?_) (fun h19 => ?_)
  ·try simp only [dq] at h19
   refine T.skip (T.thenN (T.seq (T.block (T.seq ?_))))
   have hgi : l[i]? = some (gd l i) := gd_get (by omega)
   obtain ⟨x, hx_⟩ : ∃ x, x = gd l i := ⟨_, rfl⟩
   rw [← hx_] at hgi
   have hgr : (l.map iC)[i]? = some (iC x) := map_get hgi
   have hx := x.2
   have hx3 := iC_len x
   refine T.region ?_
   refine L.idx (i := i) rfl Tryz.underlying27 sz31 rfl rfl qM (by first | rfl | omega | (simp; done)) qG (fun b20 o20 => ?_)
   refine L.loadA rfl ag31 rfl (CellsN.ofD qM hx3) ?_
   refine L.alloc rfl ze31 (fun b5 => ?_)
   refine L.storeA ag31 rfl rfl qL qO qU qW ?_
   refine L.nil ?_
   refine T.thenN ?_
   refine T.freeze (A := cl b5 31 (iC x)) qP ?_
   refine T.regionA (clsL [1, 2, 1, 2, 2, 2, 1, 2]) qk ?_
   refine A.takeP (i := 0) rfl rfl rfl rfl qk qk qk rfl qD ?_
   first | refine L.field0 rfl fo43_1 rfl ?_ | refine L.field rfl fo43_1 rfl ?_
   refine A.took ?_
   refine A.takeP (i := 2) rfl rfl rfl rfl qk qk qk rfl qD ?_
   refine L.loadA rfl ag31 rfl qN ?_
   refine A.took ?_
   refine A.branch (is := [1, 3]) qk (by decide) (Each.cons rfl ?_ <| Each.cons rfl ?_ <| Each.nil) 
   ·skip
    refine L.load rfl sc25 rfl qC ?_
    refine A.backT rfl qD ?_
    refine A.branch (is := [3]) qk (by decide) (Each.cons rfl ?_ <| Each.nil) 
    refine L.callF rfl (evs.cons rfl <| evs.nil) qD qS (obytes_spec (l := x.1) hx) (by rintro u D1 M1 ⟨rfl, rfl, rfl⟩; exact ⟨rfl, _, qA, qF⟩) ?_
    refine A.backT rfl qD ?_
    refine A.branch (is := [4]) qk (by decide) (Each.cons rfl ?_ <| Each.nil) 
    refine L.buildSlice rfl bs25 (by decide) (BP.one rfl rfl rfl <| BP.doneE (out := []) rfl) (fun b26 => ?_)
    refine A.backT rfl qD ?_
    refine A.branch (is := [5]) qk (by decide) (Each.cons rfl ?_ <| Each.nil) 
    refine L.append1 rfl Tryz.underlying25 el9 rfl rfl qP qM rfl qO1 qI qI (fun a27 c27 => ?_)
    refine A.backT rfl qD ?_
    refine A.takeP (i := 6) rfl rfl rfl rfl qk qk qk rfl qD ?_
    first | refine L.field0 rfl fo43_1 rfl ?_ | refine L.field rfl fo43_1 rfl ?_
    refine A.took ?_
    refine A.branch (is := [7]) qk (by decide) (Each.cons rfl ?_ <| Each.nil) 
    refine L.store sc25 rfl rfl rfl qU qE ?_
    refine A.backT rfl qD ?_
    refine A.done qk ?_
    refine T.blkN (T.thenN (T.region ?_))
    refine L.addN rfl rfl rfl (by omega) ?_
    refine L.move rfl rfl ?_
    refine L.nil ?_
    refine T.thenN ?_
    refine T.ownEq _ (((l.take (i + 1)).map (·.1)).map ys) qP (by rw [List.take_add_one, hgi]; simp) ?_
    exact T.back ⟨i + 1, _, _, (by omega), rfl, rfl, rfl, rfl⟩ qI (.cons (t := 18) rfl <| SubK.nil _) (.cons (t := 2) rfl <| .cons (t := 3) rfl <| .cons (t := 16) rfl <| .cons (t := 17) rfl <| SubK.nil _) qD qD qF
   ·skip
    refine L.callF rfl (evs.cons rfl <| evs.nil) qD qS (obytes_spec (l := x.1) hx) (by rintro u D1 M1 ⟨rfl, rfl, rfl⟩; exact ⟨rfl, _, qA, qF⟩) ?_
    refine A.backT rfl qD ?_
    refine A.branch (is := [1, 4]) qk (by decide) (Each.cons rfl ?_ <| Each.cons rfl ?_ <| Each.nil) 
    ·skip
     refine L.load rfl sc25 rfl qC ?_
     refine A.backT rfl qD ?_
     refine A.branch (is := [4]) qk (by decide) (Each.cons rfl ?_ <| Each.nil) 
     refine L.buildSlice rfl bs25 (by decide) (BP.one rfl rfl rfl <| BP.doneE (out := []) rfl) (fun b26 => ?_)
     refine A.backT rfl qD ?_
     refine A.branch (is := [5]) qk (by decide) (Each.cons rfl ?_ <| Each.nil) 
     refine L.append1 rfl Tryz.underlying25 el9 rfl rfl qP qM rfl qO1 qI qI (fun a27 c27 => ?_)
     refine A.backT rfl qD ?_
     refine A.takeP (i := 6) rfl rfl rfl rfl qk qk qk rfl qD ?_
     first | refine L.field0 rfl fo43_1 rfl ?_ | refine L.field rfl fo43_1 rfl ?_
     refine A.took ?_
     refine A.branch (is := [7]) qk (by decide) (Each.cons rfl ?_ <| Each.nil) 
     refine L.store sc25 rfl rfl rfl qU qE ?_
     refine A.backT rfl qD ?_
     refine A.done qk ?_
     refine T.blkN (T.thenN (T.region ?_))
     refine L.addN rfl rfl rfl (by omega) ?_
     refine L.move rfl rfl ?_
     refine L.nil ?_
     refine T.thenN ?_
     refine T.ownEq _ (((l.take (i + 1)).map (·.1)).map ys) qP (by rw [List.take_add_one, hgi]; simp) ?_
     exact T.back ⟨i + 1, _, _, (by omega), rfl, rfl, rfl, rfl⟩ qI (.cons (t := 18) rfl <| SubK.nil _) (.cons (t := 2) rfl <| .cons (t := 3) rfl <| .cons (t := 16) rfl <| .cons (t := 17) rfl <| SubK.nil _) qD qD qF
    ·skip
     refine L.buildSlice rfl bs25 (by decide) (BP.one rfl rfl rfl <| BP.doneE (out := []) rfl) (fun b26 => ?_)
     refine A.backT rfl qD ?_
     refine A.branch (is := [1]) qk (by decide) (Each.cons rfl ?_ <| Each.nil) 
     refine L.load rfl sc25 rfl qC ?_
     refine A.backT rfl qD ?_
     refine A.branch (is := [5]) qk (by decide) (Each.cons rfl ?_ <| Each.nil) 
     refine L.append1 rfl Tryz.underlying25 el9 rfl rfl qP qM rfl qO1 qI qI (fun a27 c27 => ?_)
     refine A.backT rfl qD ?_
     refine A.takeP (i := 6) rfl rfl rfl rfl qk qk qk rfl qD ?_
     first | refine L.field0 rfl fo43_1 rfl ?_ | refine L.field rfl fo43_1 rfl ?_
     refine A.took ?_
     refine A.branch (is := [7]) qk (by decide) (Each.cons rfl ?_ <| Each.nil) 
     refine L.store sc25 rfl rfl rfl qU qE ?_
     refine A.backT rfl qD ?_
     refine A.done qk ?_
     refine T.blkN (T.thenN (T.region ?_))
     refine L.addN rfl rfl rfl (by omega) ?_
     refine L.move rfl rfl ?_
     refine L.nil ?_
     refine T.thenN ?_
     refine T.ownEq _ (((l.take (i + 1)).map (·.1)).map ys) qP (by rw [List.take_add_one, hgi]; simp) ?_
     exact T.back ⟨i + 1, _, _, (by omega), rfl, rfl, rfl, rfl⟩ qI (.cons (t := 18) rfl <| SubK.nil _) (.cons (t := 2) rfl <| .cons (t := 3) rfl <| .cons (t := 16) rfl <| .cons (t := 17) rfl <| SubK.nil _) qD qD qF
  ·try simp only [dq] at h19
   obtain rfl : i = n := by omega
   rw [List.take_of_length_le (by omega)]
   refine T.exit (T.thenX (T.thenX (T.blkX (T.thenN (T.seq (T.region ?_))))))
   refine L.loadA rfl ag43 rfl qN ?_
   refine L.storeA ag43 rfl rfl qL qO qU qW ?_
   refine L.nil ?_
   refine T.thenN (T.ret ?_)
   exact T.retA rfl ag43 rfl qN ⟨_, _, rfl, rfl, rfl⟩ qD qF
end Cv
set_option maxRecDepth 10000
namespace Cv
open Go Go.Proofs
end Cv
