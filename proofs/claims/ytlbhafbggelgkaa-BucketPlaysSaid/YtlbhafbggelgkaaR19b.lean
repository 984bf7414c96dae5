/-
  The reference of the table: one less.
-/
import Derived.Test.YtlbhafbggelgkaaR19
import Derived.Test.YtlbhafbggelgkaaProg
import Derived.KernelRfl
set_option maxRecDepth 10000
set_option linter.unusedSimpArgs false
set_option linter.unusedVariables false
namespace Cv
open Go Go.Proofs
theorem zv47 : ∀ w, (zeroValue 47).run Try.prog w = .ok (Value.agg #[Value.int .i64 0, Value.slice none 0 0]) w := fun w => by kernel_rfl
theorem ze47 : Ze Try.prog 47 [Value.int .i64 0, Value.slice none 0 0] := ⟨_, rfl, zv47⟩
theorem bs45 : Bs Try.prog 45 96 3 [Value.int .i64 0, Value.int .i64 0, Value.bool false] := bs_of Try.underlying45 (fun w => by kernel_rfl) zv96 rfl rfl (by decide)
theorem el96 : El Try.prog 96 3 24 := ⟨_, _, rfl, rfl, by kernel_rfl, by kernel_rfl, by kernel_rfl⟩
theorem ag47 : Ag Try.prog 47 2 := fun w => ⟨by kernel_rfl, by kernel_rfl⟩
set_option maxHeartbeats 400000 in
theorem without_spec {a : Option Addr} {len cap : Nat} {o : Int} {tb : List One} {i : Nat} (hb : tb.length ≤ 100000) (hi : i < tb.length) : Spec Try.prog 56 [.agg [.int .i64 o, .slice a len cap].toArray, .int .i64 (i : Int)] [rsl 3 a len cap ((tb).map orow)] [] (fun v D' M' => ∃ (a1 : Option Addr) (c1 : Nat), v = .agg [.int .i64 o, .slice a1 (tb.eraseIdx i).length c1].toArray ∧ D' = [] ∧ M' = [own 3 96 a1 (tb.eraseIdx i).length c1 ((tb.eraseIdx i).map orow)]) := by
  refine Spec.intro (n := 19) Try.func56 rfl rfl (by decide) (Nat.le_of_ble_eq_true rfl) rfl (fun _ => qA) (fun _ => qA) ?_
  intro σ D M
  refine T.rslLen2 (rows := tb.map orow) qM (fun hl hcp => ?_)
  rw [List.length_map] at hl
  subst hl
  refine T.seq ?_
  refine T.region ?_
  refine L.box rfl rfl rfl (fun b2 => ?_)
  refine L.alloc rfl ze47 (fun b4 => ?_)
  refine L.nil ?_
  refine T.thenN ?_
  refine T.seq ?_
  refine T.derive (φ := rsl 3 a tb.length cap ((tb).map orow)) (ψ := rsl 3 (cutA a cap 0 3) (i - 0) (cap - 0) (((tb.map orow).drop 0).take (i - 0))) qM (fun z h => rsl_cut (Nat.zero_le _) (by omega) h) ?_
  refine T.derive (φ := rsl 3 a tb.length cap ((tb).map orow)) (ψ := rsl 3 (cutA a cap (i + 1) 3) (tb.length - (i + 1)) (cap - (i + 1)) (((tb.map orow).drop (i + 1)).take (tb.length - (i + 1)))) qM (fun z h => rsl_cut (by omega) (Nat.le_refl _) h) ?_
  refine T.regionA (clsL [0, 1, 0, 1, 0, 0, 1, 0, 1, 1, 0, 2, 1, 2]) (by kernel_rfl) ?_
  refine A.takeP (i := 1) rfl rfl rfl rfl (by kernel_rfl) (by kernel_rfl) (by kernel_rfl) rfl ?_
  first | refine L.field0 rfl fo47_1 rfl ?_ | refine L.field rfl fo47_1 rfl ?_
  refine A.took ?_
  refine A.takeP (i := 3) rfl rfl rfl rfl (by kernel_rfl) (by kernel_rfl) (by kernel_rfl) rfl ?_
  refine L.move rfl rfl ?_
  refine A.took ?_
  refine A.takeP (i := 6) rfl rfl rfl rfl (by kernel_rfl) (by kernel_rfl) (by kernel_rfl) rfl ?_
  first | refine L.field0 rfl fo47_1 rfl ?_ | refine L.field rfl fo47_1 rfl ?_
  refine A.took ?_
  refine A.takeP (i := 8) rfl rfl rfl rfl (by kernel_rfl) (by kernel_rfl) (by kernel_rfl) rfl ?_
  refine L.move rfl rfl ?_
  refine A.took ?_
  refine A.takeP (i := 9) rfl rfl rfl rfl (by kernel_rfl) (by kernel_rfl) (by kernel_rfl) rfl ?_
  refine L.addN rfl rfl rfl (by omega) ?_
  refine A.took ?_
  refine A.take (i := 2) rfl rfl rfl rfl (by kernel_rfl) (by kernel_rfl) (by kernel_rfl) (by kernel_rfl) rfl qD qF ?_
  refine L.load rfl sc45 rfl qC ?_
  refine A.took ?_
  refine A.take (i := 4) rfl rfl rfl rfl (by kernel_rfl) (by kernel_rfl) (by kernel_rfl) (by kernel_rfl) rfl qD qF ?_
  refine L.sliceSl rfl Try.underlying45 sz96 rfl Bd.no (Bd.at (x := i) rfl (by first | rfl | omega | (simp; done))) qI qI ?_
  refine A.took ?_
  refine A.take (i := 7) rfl rfl rfl rfl (by kernel_rfl) (by kernel_rfl) (by kernel_rfl) (by kernel_rfl) rfl qD qF ?_
  refine L.load rfl sc45 rfl qC ?_
  refine A.took ?_
  refine A.take (i := 10) rfl rfl rfl rfl (by kernel_rfl) (by kernel_rfl) (by kernel_rfl) (by kernel_rfl) rfl qD qF ?_
  refine L.sliceSl rfl Try.underlying45 sz96 rfl (Bd.at (x := i + 1) rfl (by first | rfl | omega | (simp; done))) Bd.no qI qI ?_
  refine A.took ?_
  refine A.branch (is := [0]) (by kernel_rfl) (by decide) (Each.cons rfl ?_ <| Each.nil) 
  refine L.buildSlice rfl bs45 (by decide) (BP.doneE (out := []) rfl) (fun b5 => ?_)
  refine L.toOwn (len := 0) qP (rows := []) (sz := 3) (by rfl) rfl (by simp) ?_
  refine A.back rfl qD qF ?_
  refine A.branch (is := [5]) (by kernel_rfl) (by decide) (Each.cons rfl ?_ <| Each.nil) 
  refine L.appendR rfl Try.underlying45 Try.underlying45 el96 rfl rfl qP (rd_D qM) one_orow qI qI (fun a10 c10 => ?_)
  refine A.back rfl qD qF ?_
  refine A.branch (is := [11]) (by kernel_rfl) (by decide) (Each.cons rfl ?_ <| Each.nil) 
  refine L.appendR rfl Try.underlying45 Try.underlying45 el96 rfl rfl qP (rd_D qM) one_orow qI qI (fun a16 c16 => ?_)
  refine A.backT rfl ?_
  refine A.takeP (i := 12) rfl rfl rfl rfl (by kernel_rfl) (by kernel_rfl) (by kernel_rfl) rfl ?_
  first | refine L.field0 rfl fo47_1 rfl ?_ | refine L.field rfl fo47_1 rfl ?_
  refine A.took ?_
  refine A.branch (is := [13]) (by kernel_rfl) (by decide) (Each.cons rfl ?_ <| Each.nil) 
  refine L.store sc45 rfl rfl rfl qU qE ?_
  refine A.backT rfl ?_
  refine A.done (by kernel_rfl) ?_
  refine T.ownEq _ ((tb.eraseIdx i).map orow) qP wo_rows ?_
  rw [show 0 + (i - 0) + (tb.length - (i + 1)) = (tb.eraseIdx i).length from by rw [List.length_eraseIdx_of_lt hi]; omega]
  refine T.thenN ?_
  refine T.seq ?_
  refine T.region ?_
  refine L.loadA rfl ag47 rfl qN ?_
  refine L.storeA ag47 rfl rfl qL qO qU qW ?_
  refine L.nil ?_
  refine T.thenN ?_
  refine T.ret ?_
  exact T.retA rfl ag47 rfl qN ⟨_, _, rfl, rfl, rfl⟩ qD qF
end Cv
