/-
  The walks: letters, wants, a new swap.
-/
import Derived.Test.YtcfhpmijippbmaaGreatG25
import Derived.Test.YtcfhpmijippbmaaGreatProg
import Derived.KernelRfl
set_option linter.unusedVariables false
set_option linter.unusedSimpArgs false
set_option linter.unusedSectionVars false
set_option maxRecDepth 10000
namespace Cv
open Go Go.Proofs
theorem el96 : El Tryz.prog 96 37 72 := ⟨_, _, rfl, rfl, by kernel_rfl, by kernel_rfl, by kernel_rfl⟩
theorem zv77 : ∀ w, (zeroValue 77).run Tryz.prog w = .ok (Value.agg #[Value.int .i64 0, Value.int .i64 0, Value.int .i64 0, Value.int .i64 0, Value.int .u8 0, Value.int .u8 0, Value.int .u8 0, Value.int .u8 0, Value.int .u8 0, Value.int .u8 0, Value.int .u8 0, Value.int .u8 0, Value.int .u8 0, Value.int .u8 0, Value.int .u8 0, Value.int .u8 0, Value.int .u8 0, Value.int .u8 0, Value.int .u8 0, Value.int .u8 0, Value.int .u8 0, Value.int .u8 0, Value.int .u8 0, Value.int .u8 0, Value.int .u8 0, Value.int .u8 0, Value.int .u8 0, Value.int .u8 0, Value.int .u8 0, Value.int .u8 0, Value.int .u8 0, Value.int .u8 0, Value.int .u8 0, Value.int .u8 0, Value.int .u8 0, Value.int .u8 0, Value.int .i64 0, S [], Value.slice none 0 0, Value.slice none 0 0]) w := fun w => by kernel_rfl
theorem ze77 : Ze Tryz.prog 77 (Value.int .i64 0 :: Value.int .i64 0 :: Value.int .i64 0 :: Value.int .i64 0 :: Value.int .u8 0 :: Value.int .u8 0 :: Value.int .u8 0 :: Value.int .u8 0 :: Value.int .u8 0 :: Value.int .u8 0 :: Value.int .u8 0 :: Value.int .u8 0 :: Value.int .u8 0 :: Value.int .u8 0 :: Value.int .u8 0 :: Value.int .u8 0 :: Value.int .u8 0 :: Value.int .u8 0 :: Value.int .u8 0 :: Value.int .u8 0 :: Value.int .u8 0 :: Value.int .u8 0 :: Value.int .u8 0 :: Value.int .u8 0 :: Value.int .u8 0 :: Value.int .u8 0 :: Value.int .u8 0 :: Value.int .u8 0 :: Value.int .u8 0 :: Value.int .u8 0 :: Value.int .u8 0 :: Value.int .u8 0 :: Value.int .u8 0 :: Value.int .u8 0 :: Value.int .u8 0 :: Value.int .u8 0 :: Value.int .i64 0 :: S [] :: Value.slice none 0 0 :: Value.slice none 0 0 :: []) := ⟨_, rfl, zv77⟩
theorem fo77_2 : Fo Tryz.prog 77 2 2 := fun a w => by kernel_rfl
theorem fo77_1 : Fo Tryz.prog 77 1 1 := fun a w => by kernel_rfl
theorem fo77_3 : Fo Tryz.prog 77 3 3 := fun a w => by kernel_rfl
theorem bu77 : Bu Tryz.prog 77 (Value.int .i64 0 :: Value.int .i64 0 :: Value.int .i64 0 :: Value.int .i64 0 :: Value.int .u8 0 :: Value.int .u8 0 :: Value.int .u8 0 :: Value.int .u8 0 :: Value.int .u8 0 :: Value.int .u8 0 :: Value.int .u8 0 :: Value.int .u8 0 :: Value.int .u8 0 :: Value.int .u8 0 :: Value.int .u8 0 :: Value.int .u8 0 :: Value.int .u8 0 :: Value.int .u8 0 :: Value.int .u8 0 :: Value.int .u8 0 :: Value.int .u8 0 :: Value.int .u8 0 :: Value.int .u8 0 :: Value.int .u8 0 :: Value.int .u8 0 :: Value.int .u8 0 :: Value.int .u8 0 :: Value.int .u8 0 :: Value.int .u8 0 :: Value.int .u8 0 :: Value.int .u8 0 :: Value.int .u8 0 :: Value.int .u8 0 :: Value.int .u8 0 :: Value.int .u8 0 :: Value.int .u8 0 :: Value.int .i64 0 :: S [] :: Value.slice none 0 0 :: Value.slice none 0 0 :: []) (fun (i : Nat) => ([(0, 1), (1, 1), (2, 1), (3, 1), (4, 32), (36, 1), (37, 1), (38, 1), (39, 1)] : List (Nat × Nat))[i]?) := bu_of Tryz.underlying77 zv77 rfl (fun w => by kernel_rfl)
theorem ag77 : Ag Tryz.prog 77 40 := fun w => ⟨by kernel_rfl, by kernel_rfl⟩
theorem fo77_4 : Fo Tryz.prog 77 4 4 := fun a w => by kernel_rfl
theorem fo77_5 : Fo Tryz.prog 77 5 36 := fun a w => by kernel_rfl
theorem fo29_0 : Fo Tryz.prog 29 0 0 := fun a w => by kernel_rfl
theorem fo29_1 : Fo Tryz.prog 29 1 1 := fun a w => by kernel_rfl
theorem ag29 : Ag Tryz.prog 29 2 := fun w => ⟨by kernel_rfl, by kernel_rfl⟩
theorem zv128 : ∀ w, (zeroValue 128).run Tryz.prog w = .ok (Value.agg #[Value.int .i64 0, Value.int .i64 0, Value.map none]) w := fun w => by kernel_rfl
theorem bu128 : Bu Tryz.prog 128 [Value.int .i64 0, Value.int .i64 0, Value.map none] (fun (i : Nat) => ([(0, 2), (2, 1)] : List (Nat × Nat))[i]?) := bu_of Tryz.underlying128 zv128 rfl (fun w => by kernel_rfl)
theorem zv59 : ∀ w, (zeroValue 59).run Tryz.prog w = .ok (Value.agg #[Value.pointer none, Value.pointer none, Value.int .i64 0, Value.slice none 0 0, Value.map none, Value.int .i64 0]) w := fun w => by kernel_rfl
theorem bu59 : Bu Tryz.prog 59 [Value.pointer none, Value.pointer none, Value.int .i64 0, Value.slice none 0 0, Value.map none, Value.int .i64 0] (fun (i : Nat) => ([(0, 1), (1, 1), (2, 1), (3, 1), (4, 1), (5, 1)] : List (Nat × Nat))[i]?) := bu_of Tryz.underlying59 zv59 rfl (fun w => by kernel_rfl)
theorem zv81 : ∀ w, (zeroValue 81).run Tryz.prog w = .ok (Value.agg #[Value.int .i64 0, Value.int .u8 0, Value.int .u8 0, Value.int .u8 0, Value.int .u8 0, Value.int .u8 0, Value.int .u8 0, Value.int .u8 0, Value.int .u8 0, Value.int .u8 0, Value.int .u8 0, Value.int .u8 0, Value.int .u8 0, Value.int .u8 0, Value.int .u8 0, Value.int .u8 0, Value.int .u8 0, Value.int .u8 0, Value.int .u8 0, Value.int .u8 0, Value.int .u8 0, Value.int .u8 0, Value.int .u8 0, Value.int .u8 0, Value.int .u8 0, Value.int .u8 0, Value.int .u8 0, Value.int .u8 0, Value.int .u8 0, Value.int .u8 0, Value.int .u8 0, Value.int .u8 0, Value.int .u8 0, S []]) w := fun w => by kernel_rfl
theorem ze81 : Ze Tryz.prog 81 (Value.int .i64 0 :: Value.int .u8 0 :: Value.int .u8 0 :: Value.int .u8 0 :: Value.int .u8 0 :: Value.int .u8 0 :: Value.int .u8 0 :: Value.int .u8 0 :: Value.int .u8 0 :: Value.int .u8 0 :: Value.int .u8 0 :: Value.int .u8 0 :: Value.int .u8 0 :: Value.int .u8 0 :: Value.int .u8 0 :: Value.int .u8 0 :: Value.int .u8 0 :: Value.int .u8 0 :: Value.int .u8 0 :: Value.int .u8 0 :: Value.int .u8 0 :: Value.int .u8 0 :: Value.int .u8 0 :: Value.int .u8 0 :: Value.int .u8 0 :: Value.int .u8 0 :: Value.int .u8 0 :: Value.int .u8 0 :: Value.int .u8 0 :: Value.int .u8 0 :: Value.int .u8 0 :: Value.int .u8 0 :: Value.int .u8 0 :: S [] :: []) := ⟨_, rfl, zv81⟩
theorem bu81 : Bu Tryz.prog 81 (Value.int .i64 0 :: Value.int .u8 0 :: Value.int .u8 0 :: Value.int .u8 0 :: Value.int .u8 0 :: Value.int .u8 0 :: Value.int .u8 0 :: Value.int .u8 0 :: Value.int .u8 0 :: Value.int .u8 0 :: Value.int .u8 0 :: Value.int .u8 0 :: Value.int .u8 0 :: Value.int .u8 0 :: Value.int .u8 0 :: Value.int .u8 0 :: Value.int .u8 0 :: Value.int .u8 0 :: Value.int .u8 0 :: Value.int .u8 0 :: Value.int .u8 0 :: Value.int .u8 0 :: Value.int .u8 0 :: Value.int .u8 0 :: Value.int .u8 0 :: Value.int .u8 0 :: Value.int .u8 0 :: Value.int .u8 0 :: Value.int .u8 0 :: Value.int .u8 0 :: Value.int .u8 0 :: Value.int .u8 0 :: Value.int .u8 0 :: S [] :: []) (fun (i : Nat) => ([(0, 1), (1, 32), (33, 1)] : List (Nat × Nat))[i]?) := bu_of Tryz.underlying81 zv81 rfl (fun w => by kernel_rfl)
theorem ag81 : Ag Tryz.prog 81 34 := fun w => ⟨by kernel_rfl, by kernel_rfl⟩
theorem zv52 : ∀ w, (zeroValue 52).run Tryz.prog w = .ok (Value.agg #[Value.int .i64 0, Value.int .u8 0, Value.int .u8 0, Value.int .u8 0, Value.int .u8 0, Value.int .u8 0, Value.int .u8 0, Value.int .u8 0, Value.int .u8 0, Value.int .u8 0, Value.int .u8 0, Value.int .u8 0, Value.int .u8 0, Value.int .u8 0, Value.int .u8 0, Value.int .u8 0, Value.int .u8 0, Value.int .u8 0, Value.int .u8 0, Value.int .u8 0, Value.int .u8 0, Value.int .u8 0, Value.int .u8 0, Value.int .u8 0, Value.int .u8 0, Value.int .u8 0, Value.int .u8 0, Value.int .u8 0, Value.int .u8 0, Value.int .u8 0, Value.int .u8 0, Value.int .u8 0, Value.int .u8 0, Value.int .i64 0]) w := fun w => by kernel_rfl
theorem ze52 : Ze Tryz.prog 52 (Value.int .i64 0 :: Value.int .u8 0 :: Value.int .u8 0 :: Value.int .u8 0 :: Value.int .u8 0 :: Value.int .u8 0 :: Value.int .u8 0 :: Value.int .u8 0 :: Value.int .u8 0 :: Value.int .u8 0 :: Value.int .u8 0 :: Value.int .u8 0 :: Value.int .u8 0 :: Value.int .u8 0 :: Value.int .u8 0 :: Value.int .u8 0 :: Value.int .u8 0 :: Value.int .u8 0 :: Value.int .u8 0 :: Value.int .u8 0 :: Value.int .u8 0 :: Value.int .u8 0 :: Value.int .u8 0 :: Value.int .u8 0 :: Value.int .u8 0 :: Value.int .u8 0 :: Value.int .u8 0 :: Value.int .u8 0 :: Value.int .u8 0 :: Value.int .u8 0 :: Value.int .u8 0 :: Value.int .u8 0 :: Value.int .u8 0 :: Value.int .i64 0 :: []) := ⟨_, rfl, zv52⟩
theorem fo81_1 : Fo Tryz.prog 81 1 1 := fun a w => by kernel_rfl
theorem bu52 : Bu Tryz.prog 52 (Value.int .i64 0 :: Value.int .u8 0 :: Value.int .u8 0 :: Value.int .u8 0 :: Value.int .u8 0 :: Value.int .u8 0 :: Value.int .u8 0 :: Value.int .u8 0 :: Value.int .u8 0 :: Value.int .u8 0 :: Value.int .u8 0 :: Value.int .u8 0 :: Value.int .u8 0 :: Value.int .u8 0 :: Value.int .u8 0 :: Value.int .u8 0 :: Value.int .u8 0 :: Value.int .u8 0 :: Value.int .u8 0 :: Value.int .u8 0 :: Value.int .u8 0 :: Value.int .u8 0 :: Value.int .u8 0 :: Value.int .u8 0 :: Value.int .u8 0 :: Value.int .u8 0 :: Value.int .u8 0 :: Value.int .u8 0 :: Value.int .u8 0 :: Value.int .u8 0 :: Value.int .u8 0 :: Value.int .u8 0 :: Value.int .u8 0 :: Value.int .i64 0 :: []) (fun (i : Nat) => ([(0, 1), (1, 32), (33, 1)] : List (Nat × Nat))[i]?) := bu_of Tryz.underlying52 zv52 rfl (fun w => by kernel_rfl)
theorem ag52 : Ag Tryz.prog 52 34 := fun w => ⟨by kernel_rfl, by kernel_rfl⟩
set_option maxHeartbeats 400000 in
theorem dele_spec {a : Option Addr} {len cap i : Nat} {xs : List Ord} (hb : len ≤ 4611686018427387904) (hi : i < len) : Spec Tryz.prog 45 [.slice a len cap, .int .i64 (i : Int), .int .i64 ((i + 1 : Nat) : Int)] [] [own 37 96 a len cap ((xs).map oC)] (fun v D' M' => v = .slice a (len - 1) cap ∧ D' = [] ∧ M' = [own 37 96 a (len - 1) cap ((xs.eraseIdx i).map oC)]) := by
  refine Spec.intro (n := 33) Tryz.func45 rfl rfl (by decide) (Nat.le_of_ble_eq_true rfl) rfl (fun _ => qA) (fun _ => qA) ?_
  intro σ D M
  refine T.ownLen qM (fun hl hc => ?_)
  rw [List.length_map] at hl
  refine T.ownNe qM (by omega) (fun b o ha => ?_)
  subst ha
  refine T.seq ?_
  refine T.region ?_
  refine L.assign rfl rfl ?_
  refine L.nil ?_
  refine T.thenN ?_
  refine T.seq ?_
  refine T.region ?_
  refine L.move rfl rfl ?_
  refine L.move rfl rfl ?_
  refine L.move rfl rfl ?_
  refine L.move rfl rfl ?_
  refine L.lenSl rfl Tryz.underlying56 rfl ?_
  refine L.sliceMax (h := i + 1) rfl Tryz.underlying56 sz96 rfl (Bd.at (x := i) rfl (by first | rfl | omega | (simp; done))) ⟨_, _, _, rfl, rfl, (by first | rfl | omega)⟩ rfl qI qI qI ?_
  refine L.nil ?_
  refine T.thenN ?_
  refine T.seq ?_
  refine T.seq ?_
  refine T.region ?_
  refine L.move rfl rfl ?_
  refine L.move rfl rfl ?_
  refine L.eqI rfl rfl rfl ?_
  refine L.nil ?_
  refine T.thenN ?_
  refine T.condF rfl (decide_eq_false (by omega)) ?_
  refine T.skip ?_
  refine T.thenN ?_
  refine T.seq ?_
  refine T.region ?_
  refine L.move rfl rfl ?_
  refine L.lenSl rfl Tryz.underlying56 rfl ?_
  refine L.assign rfl rfl ?_
  refine L.nil ?_
  refine T.thenN ?_
  refine T.seq ?_
  refine T.regionA (clsL [1, 1, 0, 1, 1, 0, 2, 1]) (by kernel_rfl) ?_
  refine A.takeP (i := 0) rfl rfl rfl rfl (by kernel_rfl) (by kernel_rfl) (by kernel_rfl) rfl qD ?_
  refine L.move rfl rfl ?_
  refine A.took ?_
  refine A.takeP (i := 1) rfl rfl rfl rfl (by kernel_rfl) (by kernel_rfl) (by kernel_rfl) rfl qD ?_
  refine L.move rfl rfl ?_
  refine A.took ?_
  refine A.takeP (i := 3) rfl rfl rfl rfl (by kernel_rfl) (by kernel_rfl) (by kernel_rfl) rfl qD ?_
  refine L.move rfl rfl ?_
  refine A.took ?_
  refine A.takeP (i := 4) rfl rfl rfl rfl (by kernel_rfl) (by kernel_rfl) (by kernel_rfl) rfl qD ?_
  refine L.move rfl rfl ?_
  refine A.took ?_
  refine A.take (i := 2) rfl rfl rfl rfl (by kernel_rfl) (by kernel_rfl) (by kernel_rfl) (by kernel_rfl) rfl qD qF ?_
  refine L.sliceTo rfl Tryz.underlying56 sz96 rfl (Bd.at (x := i) rfl (by first | rfl | omega | (simp; done))) qI ?_
  refine A.took ?_
  refine A.take (i := 5) rfl rfl rfl rfl (by kernel_rfl) (by kernel_rfl) (by kernel_rfl) (by kernel_rfl) rfl qD qF ?_
  refine L.sliceSl rfl Tryz.underlying56 sz96 rfl (Bd.at (x := i + 1) rfl (by first | rfl | omega | (simp; done))) Bd.no qI qI ?_
  refine A.took ?_
  refine A.branch (is := [6]) (by kernel_rfl) (by decide) (Each.cons rfl ?_ <| Each.nil) 
  refine L.appendIn (i := i) (j := i + 1) rfl Tryz.underlying56 el96 rfl rfl qP qI qI (by simp [hl]) one_ord ?_
  rw [show i + (len - (i + 1)) = len - 1 from by omega]
  refine A.backT rfl qD ?_
  refine A.takeP (i := 7) rfl rfl rfl rfl (by kernel_rfl) (by kernel_rfl) (by kernel_rfl) rfl qD ?_
  refine L.assign rfl rfl ?_
  refine A.took ?_
  refine A.done (by kernel_rfl) ?_
  refine T.thenN ?_
  refine T.seq ?_
  refine T.region ?_
  refine L.move rfl rfl ?_
  refine L.move rfl rfl ?_
  refine L.lenSl rfl Tryz.underlying56 rfl ?_
  refine L.move rfl rfl ?_
  refine L.sliceSl rfl Tryz.underlying56 sz96 rfl (Bd.at (x := len - 1) rfl (by first | rfl | omega | (simp; done))) (Bd.at rfl rfl) qI qI ?_
  refine L.clearO (i := len - 1) (sz := 37) Tryz.underlying56 zv96 rfl rfl qO rfl qP qI qI ?_
  refine L.nil ?_
  refine T.ownTo (h := len - 1) qP (by omega) ?_
  refine T.ownEq _ ((xs.eraseIdx i).map oC) qP (del_rowsO hl hi) ?_
  refine T.thenN ?_
  refine T.seq ?_
  refine T.region ?_
  refine L.move rfl rfl ?_
  refine L.assign rfl rfl ?_
  refine L.nil ?_
  refine T.thenN ?_
  refine T.ret ?_
  exact T.ret1 rfl rfl ⟨rfl, rfl, rfl⟩ qD qF
theorem ibx : IsX Tryz.prog 96 Extern.BytealgIndexByte.indexByte := IsX.of Tryz.func96 (by kernel_rfl) (by kernel_rfl) (by kernel_rfl) (by kernel_rfl)
theorem L.idxByteX {P : Program} {σ : World} {n : Nat} {Q : Post} {K : Env} {D M : List Asn} {m : Option (List Asn × List Asn)} {ops : Array Oper} {rest : List Oper} {d : Nat} {ty : TypeId} {pos : String} {aft : Array Edge} {f : FuncId} {x y : Operand} {ats : Array TypeId} {l : List UInt8} {c : UInt8} (hX : IsX P f Extern.BytealgIndexByte.indexByte) (hd : Nat.blt d n = true) (hx : evs K [x, y] [S l, Y c])
    (next : TL m P σ n ops Q rest ((d, .int .i64 (ibF l c)) :: K) D M) : TL m P σ n ops Q (⟨some d, .call { callee := .value (.func f), args := [x, y].toArray, argTypes := ats }, ty, pos, aft, none⟩ :: rest) K D M :=
  L.callX hX hd hx (fun w ss => by
    have := Go.Lib.run_indexByteString (P := P) ⟨l.toArray⟩ (c.toNat : Int) w
    rw [show ((c.toNat : Int).toNat).toUInt8 = c from by simp] at this
    exact this) next
set_option maxHeartbeats 400000 in
theorem slib_spec {l : List UInt8} {c : UInt8}  : Spec Tryz.prog 87 [S l, Y c] [] [] (fun v D' M' => v = .int .i64 (ibF l c) ∧ D' = [] ∧ M' = []) := by
  refine Spec.intro (n := 8) Tryz.func87 rfl rfl (by decide) (Nat.le_of_ble_eq_true rfl) rfl (fun _ => qA) (fun _ => qA) ?_
  intro σ D M
  refine T.seq ?_
  refine T.region ?_
  refine L.assign rfl rfl ?_
  refine L.nil ?_
  refine T.thenN ?_
  refine T.seq ?_
  refine T.region ?_
  refine L.move rfl rfl ?_
  refine L.move rfl rfl ?_
  refine L.idxByteX ibx rfl (evs.cons rfl <| evs.cons rfl <| evs.nil) ?_
  refine L.assign rfl rfl ?_
  refine L.nil ?_
  refine T.thenN ?_
  refine T.ret ?_
  exact T.ret1 rfl rfl ⟨rfl, rfl, rfl⟩ qD qF
set_option maxHeartbeats 400000 in
theorem sib_spec {l : List UInt8} {c : UInt8}  : Spec Tryz.prog 65 [S l, Y c] [] [] (fun v D' M' => v = .int .i64 (ibF l c) ∧ D' = [] ∧ M' = []) := by
  refine Spec.intro (n := 8) Tryz.func65 rfl rfl (by decide) (Nat.le_of_ble_eq_true rfl) rfl (fun _ => qA) (fun _ => qA) ?_
  intro σ D M
  refine T.seq ?_
  refine T.region ?_
  refine L.assign rfl rfl ?_
  refine L.nil ?_
  refine T.thenN ?_
  refine T.seq ?_
  refine T.region ?_
  refine L.move rfl rfl ?_
  refine L.move rfl rfl ?_
  refine L.callF rfl (evs.cons rfl <| evs.cons rfl <| evs.nil) qD qS (slib_spec) (by rintro u D1 M1 ⟨rfl, rfl, rfl⟩; exact ⟨rfl, _, qA, qF⟩) ?_
  refine L.assign rfl rfl ?_
  refine L.nil ?_
  refine T.thenN ?_
  refine T.ret ?_
  exact T.ret1 rfl rfl ⟨rfl, rfl, rfl⟩ qD qF
set_option maxHeartbeats 400000 in
theorem has8_spec   : Spec Tryz.prog 40 [.int .i64 8] [] [] (fun v D' M' => v = S [110, 119, 116] ∧ D' = [] ∧ M' = []) := by
  refine Spec.intro (n := 19) Tryz.func40 rfl rfl (by decide) (Nat.le_of_ble_eq_true rfl) rfl (fun _ => qA) (fun _ => qA) ?_
  intro σ D M
  refine T.seq ?_
  refine T.region ?_
  refine L.assign rfl rfl ?_
  refine L.nil ?_
  refine T.thenN ?_
  refine T.seq ?_
  refine T.seq ?_
  refine T.region ?_
  refine L.move rfl rfl ?_
  refine L.nil ?_
  refine T.thenN ?_
  refine T.block ?_
  refine T.seq ?_
  refine T.seq ?_
  refine T.region ?_
  refine L.eqI rfl rfl rfl ?_
  refine L.assign rfl rfl ?_
  refine L.nil ?_
  refine T.thenN ?_
  refine T.condF rfl rfl ?_
  refine T.region ?_
  refine L.eqI rfl rfl rfl ?_
  refine L.assign rfl rfl ?_
  refine L.nil ?_
  refine T.thenN ?_
  refine T.condF rfl rfl ?_
  refine T.seq ?_
  refine T.region ?_
  refine L.eqI rfl rfl rfl ?_
  refine L.assign rfl rfl ?_
  refine L.nil ?_
  refine T.thenN ?_
  refine T.condF rfl rfl ?_
  refine T.seq ?_
  refine T.seq ?_
  refine T.region ?_
  refine L.eqI rfl rfl rfl ?_
  refine L.assign rfl rfl ?_
  refine L.nil ?_
  refine T.thenN ?_
  refine T.condF rfl rfl ?_
  refine T.region ?_
  refine L.eqI rfl rfl rfl ?_
  refine L.assign rfl rfl ?_
  refine L.nil ?_
  refine T.thenN ?_
  refine T.condF rfl rfl ?_
  refine T.seq ?_
  refine T.region ?_
  refine L.eqI rfl rfl rfl ?_
  refine L.assign rfl rfl ?_
  refine L.nil ?_
  refine T.thenN ?_
  refine T.condT rfl rfl ?_
  refine T.seq ?_
  refine T.region ?_
  refine L.assign rfl rfl ?_
  refine L.nil ?_
  refine T.thenN ?_
  refine T.ret ?_
  refine T.blkR ?_
  refine T.thenR ?_
  exact T.ret1 rfl rfl ⟨rfl, rfl, rfl⟩ qD qF
set_option maxHeartbeats 400000 in
theorem part8_spec {c : UInt8}  : Spec Tryz.prog 42 [.int .i64 8, Y c] [] [] (fun v D' M' => v = .bool (decide (0 ≤ ibF [110, 119, 116] c)) ∧ D' = [] ∧ M' = []) := by
  refine Spec.intro (n := 10) Tryz.func42 rfl rfl (by decide) (Nat.le_of_ble_eq_true rfl) rfl (fun _ => qA) (fun _ => qA) ?_
  intro σ D M
  refine T.seq ?_
  refine T.region ?_
  refine L.assign rfl rfl ?_
  refine L.nil ?_
  refine T.thenN ?_
  refine T.seq ?_
  refine T.region ?_
  refine L.move rfl rfl ?_
  refine L.callF rfl (evs.cons rfl <| evs.nil) qD qS (has8_spec) (by rintro u D1 M1 ⟨rfl, rfl, rfl⟩; exact ⟨rfl, _, qA, qF⟩) ?_
  refine L.move rfl rfl ?_
  refine L.callF rfl (evs.cons rfl <| evs.cons rfl <| evs.nil) qD qS (sib_spec (l := [110, 119, 116]) (c := c)) (by rintro u D1 M1 ⟨rfl, rfl, rfl⟩; exact ⟨rfl, _, qA, qF⟩) ?_
  refine L.geI rfl rfl rfl ?_
  refine L.assign rfl rfl ?_
  refine L.nil ?_
  refine T.thenN ?_
  refine T.ret ?_
  exact T.ret1 rfl rfl ⟨rfl, rfl, rfl⟩ qD qF
set_option maxHeartbeats 400000 in
theorem reply8_spec {kind fr to_ sq what : Int} {id tx : List UInt8} {pa ha : Option Addr} {pl pc hl hc : Nat} (hid : id.length = 32) : Spec Tryz.prog 22 [.agg (letV kind fr to_ sq id what tx pa pl pc ha hl hc).toArray, .int .i64 8] [] [] (fun v D' M' => v = .agg (letV 8 to_ fr sq id what [] none 0 0 none 0 0).toArray ∧ D' = [] ∧ M' = []) := by
  refine Spec.intro (n := 25) Tryz.func22 rfl rfl (by decide) (Nat.le_of_ble_eq_true rfl) rfl (fun _ => qA) (fun _ => qA) ?_
  intro σ D M
  have hll := @letV_len kind fr to_ sq what id tx pa ha pl pc hl hc hid
  refine T.seq ?_
  refine T.region ?_
  refine L.box rfl rfl rfl (fun b2 => ?_)
  refine L.alloc rfl ze77 (fun b4 => ?_)
  refine L.nil ?_
  refine T.freeze (A := cl b2 77 (letV kind fr to_ sq id what tx pa pl pc ha hl hc)) qP ?_
  refine T.thenN ?_
  refine T.seq ?_
  refine T.region ?_
  refine L.move rfl rfl ?_
  first | refine L.field0 rfl fo77_2 rfl ?_ | refine L.field rfl fo77_2 rfl ?_
  refine L.load rfl sc3 rfl qC ?_
  first | refine L.field0 rfl fo77_1 rfl ?_ | refine L.field rfl fo77_1 rfl ?_
  refine L.load rfl sc3 rfl qC ?_
  first | refine L.field0 rfl fo77_3 rfl ?_ | refine L.field rfl fo77_3 rfl ?_
  refine L.load rfl sc3 rfl qC ?_
  refine L.build rfl bu77 (BP.one rfl rfl rfl <| BP.one rfl rfl rfl <| BP.one rfl rfl rfl <| BP.one rfl rfl rfl <| BP.doneE (out := (Value.int .u8 0 :: Value.int .u8 0 :: Value.int .u8 0 :: Value.int .u8 0 :: Value.int .u8 0 :: Value.int .u8 0 :: Value.int .u8 0 :: Value.int .u8 0 :: Value.int .u8 0 :: Value.int .u8 0 :: Value.int .u8 0 :: Value.int .u8 0 :: Value.int .u8 0 :: Value.int .u8 0 :: Value.int .u8 0 :: Value.int .u8 0 :: Value.int .u8 0 :: Value.int .u8 0 :: Value.int .u8 0 :: Value.int .u8 0 :: Value.int .u8 0 :: Value.int .u8 0 :: Value.int .u8 0 :: Value.int .u8 0 :: Value.int .u8 0 :: Value.int .u8 0 :: Value.int .u8 0 :: Value.int .u8 0 :: Value.int .u8 0 :: Value.int .u8 0 :: Value.int .u8 0 :: Value.int .u8 0 :: Value.int .i64 0 :: S [] :: Value.slice none 0 0 :: Value.slice none 0 0 :: [])) rfl) ?_
  refine L.alloc rfl ze77 (fun b5 => ?_)
  refine L.storeA ag77 rfl rfl qL qO qU qW ?_
  refine L.nil ?_
  refine T.clEq b5 (letV 8 to_ fr sq z32 0 [] none 0 0 none 0 0) qP (by rfl) ?_
  refine T.thenN ?_
  refine T.seq ?_
  refine T.seq ?_
  refine T.region ?_
  refine L.move rfl rfl ?_
  refine L.callF rfl (evs.cons rfl <| evs.cons rfl <| evs.nil) qD qS (part8_spec (c := 110)) (by rintro u D1 M1 ⟨rfl, rfl, rfl⟩; exact ⟨rfl, _, qA, qF⟩) ?_
  refine L.nil ?_
  refine T.thenN ?_
  refine T.condT rfl (by decide) ?_
  refine T.region ?_
  first | refine L.field0 rfl fo77_4 rfl ?_ | refine L.field rfl fo77_4 rfl ?_
  refine L.loadA rfl ag50 rfl qN ?_
  first | refine L.field0 rfl fo77_4 rfl ?_ | refine L.field rfl fo77_4 rfl ?_
  refine L.storeA ag50 rfl rfl (by rw [List.length_map]; exact hid) qO qU (SetAt.there (SetAt.there (SetAt.there (SetAt.there (SetAt.left (us := z32.map Y) (vs := id.map Y) (cs := [.int .i64 0, S [], .slice none 0 0, .slice none 0 0]) (by simp [hid, z32_len])))))) ?_
  refine L.nil ?_
  refine T.clEq b5 (letV 8 to_ fr sq id 0 [] none 0 0 none 0 0) qP (by rfl) ?_
  refine T.thenN ?_
  refine T.seq ?_
  refine T.seq ?_
  refine T.region ?_
  refine L.move rfl rfl ?_
  refine L.callF rfl (evs.cons rfl <| evs.cons rfl <| evs.nil) qD qS (part8_spec (c := 119)) (by rintro u D1 M1 ⟨rfl, rfl, rfl⟩; exact ⟨rfl, _, qA, qF⟩) ?_
  refine L.nil ?_
  refine T.thenN ?_
  refine T.condT rfl (by decide) ?_
  refine T.region ?_
  first | refine L.field0 rfl fo77_5 rfl ?_ | refine L.field rfl fo77_5 rfl ?_
  refine L.load rfl sc3 rfl qC ?_
  first | refine L.field0 rfl fo77_5 rfl ?_ | refine L.field rfl fo77_5 rfl ?_
  refine L.store sc3 rfl rfl rfl qU qE ?_
  refine L.nil ?_
  refine T.clEq b5 (letV 8 to_ fr sq id what [] none 0 0 none 0 0) qP (by rfl) ?_
  have hl2 := @letV_len 8 to_ fr sq what id [] none none 0 0 0 0 hid
  refine T.thenN ?_
  refine T.seq ?_
  refine T.region ?_
  refine L.loadA rfl ag77 rfl qN ?_
  refine L.storeA ag77 rfl rfl qL qO qU qW ?_
  refine L.nil ?_
  refine T.thenN ?_
  refine T.ret ?_
  exact T.retA rfl ag77 rfl qN ⟨rfl, rfl, rfl⟩ qD qF
set_option maxHeartbeats 400000 in
theorem qnew_spec (each most : Int) (h1 : 1 ≤ each) (h2 : each ≤ most) (h3 : most ≤ 1048576)  : Spec Tryz.prog 24 [.agg #[.int .i64 each, .int .i64 most]] [] [] (fun v D' M' => ∃ (q : Nat), v = .tuple #[.pointer (some ⟨q, 0, none⟩), .int .i64 0] ∧ D' = [] ∧ M' = []) := by
  refine Spec.intro (n := 23) Tryz.func24 rfl rfl (by decide) (Nat.le_of_ble_eq_true rfl) rfl (fun _ => qA) (fun _ => qA) ?_
  intro σ D M
  refine T.seq ?_
  refine T.region ?_
  refine L.box rfl rfl rfl (fun b1 => ?_)
  refine L.assign rfl rfl ?_
  refine L.assign rfl rfl ?_
  refine L.nil ?_
  refine T.thenN ?_
  refine T.seq ?_
  refine T.seq ?_
  refine T.region ?_
  first | refine L.field0 rfl fo29_0 rfl ?_ | refine L.field rfl fo29_0 rfl ?_
  refine L.load rfl sc3 rfl qC ?_
  refine L.ltI rfl rfl rfl ?_
  refine L.move rfl rfl ?_
  refine L.known (t := 7) rfl (show _ = Value.bool false from congrArg Value.bool (decide_eq_false (by omega))) ?_
  refine L.guardT (dj := 7) rfl rfl rfl ?_
  first | refine L.field0 rfl fo29_1 rfl ?_ | refine L.field rfl fo29_1 rfl ?_
  refine L.guardT (dj := 7) rfl rfl rfl ?_
  refine L.load rfl sc3 rfl qC ?_
  refine L.guardT (dj := 7) rfl rfl rfl ?_
  first | refine L.field0 rfl fo29_0 rfl ?_ | refine L.field rfl fo29_0 rfl ?_
  refine L.guardT (dj := 7) rfl rfl rfl ?_
  refine L.load rfl sc3 rfl qC ?_
  refine L.guardT (dj := 7) rfl rfl rfl ?_
  refine L.ltI rfl rfl rfl ?_
  refine L.pickF rfl rfl rfl ?_
  refine L.move rfl rfl ?_
  refine L.known (t := 14) rfl (show _ = Value.bool false from congrArg Value.bool (decide_eq_false (by omega))) ?_
  refine L.guardT (dj := 14) rfl rfl rfl ?_
  first | refine L.field0 rfl fo29_1 rfl ?_ | refine L.field rfl fo29_1 rfl ?_
  refine L.guardT (dj := 14) rfl rfl rfl ?_
  refine L.load rfl sc3 rfl qC ?_
  refine L.guardT (dj := 14) rfl rfl rfl ?_
  refine L.gtI rfl rfl rfl ?_
  refine L.pickF rfl rfl rfl ?_
  refine L.nil ?_
  refine T.thenN ?_
  refine T.condF rfl (decide_eq_false (by omega)) ?_
  refine T.skip ?_
  refine T.thenN ?_
  refine T.seq ?_
  refine T.region ?_
  refine L.loadA rfl ag29 rfl qN ?_
  refine L.makeMap iK iK rfl (fun mb => ?_)
  refine L.build rfl bu128 (BP.agg rfl rfl (by first | with_reducible assumption | (simp; done) | (simp only [List.length_map]; with_reducible assumption) | (simp [*]; done) | rfl) (Nat.le_of_ble_eq_true rfl) qR <| BP.one rfl rfl rfl <| BP.doneE (out := []) rfl) ?_
  refine L.box rfl rfl rfl (fun b22 => ?_)
  refine L.assign rfl rfl ?_
  refine L.assign rfl rfl ?_
  refine L.nil ?_
  refine T.thenN ?_
  refine T.ret ?_
  exact T.ret2 rfl rfl rfl ⟨_, rfl, rfl, rfl⟩ qD qF
set_option maxHeartbeats 400000 in
theorem wnew_spec {o : Int}  : Spec Tryz.prog 7 [.int .i64 o, .agg #[.int .i64 1, .int .i64 9]] [] [] (fun v D' M' => ∃ (b bb q lm : Nat), v = .tuple #[.pointer (some ⟨b, 0, none⟩), .int .i64 0] ∧ D' = [] ∧ M' = [cl b 59 (swC bb q o none 0 0 lm 0), own 37 96 none 0 0 ((([] : List Ord)).map oC), bookA bb (fun _ => zM), mp lm lkK iK []]) := by
  refine Spec.intro (n := 22) Tryz.func7 rfl rfl (by decide) (Nat.le_of_ble_eq_true rfl) rfl (fun _ => qA) (fun _ => qA) ?_
  intro σ D M
  refine T.seq ?_
  refine T.region ?_
  refine L.box rfl rfl rfl (fun b3 => ?_)
  refine L.assign rfl rfl ?_
  refine L.assign rfl rfl ?_
  refine L.nil ?_
  refine T.thenN ?_
  refine T.seq ?_
  refine T.region ?_
  refine L.loadA rfl ag29 rfl qN ?_
  refine L.call rfl (evs.cons rfl <| evs.nil) qD qS (qnew_spec 1 9 (by decide) (by decide) (by decide)) ?_
  rintro _ _ _ ⟨q, rfl, rfl, rfl⟩
  refine L.norm qA qA ?_
  refine L.move rfl rfl ?_
  refine L.extract rfl rfl rfl ?_
  refine L.extract rfl rfl rfl ?_
  refine L.assign rfl rfl ?_
  refine L.assign rfl rfl ?_
  refine L.nil ?_
  refine T.thenN ?_
  refine T.seq ?_
  refine T.seq ?_
  refine T.region ?_
  refine L.move rfl rfl ?_
  refine L.neI rfl rfl rfl ?_
  refine L.nil ?_
  refine T.thenN ?_
  refine T.condF rfl (decide_eq_false (fun e => e rfl)) ?_
  refine T.skip ?_
  refine T.thenN ?_
  refine T.seq ?_
  refine T.region ?_
  refine L.call rfl (evs.nil) qD qS (rnew_spec) ?_
  rintro _ _ _ ⟨bb, rfl, rfl, rfl⟩
  refine L.norm qA qA ?_
  refine L.move rfl rfl ?_
  refine L.move rfl rfl ?_
  refine L.makeMap lkK iK rfl (fun lm => ?_)
  refine L.build rfl bu59 (BP.one rfl rfl rfl <| BP.one rfl rfl rfl <| BP.one rfl rfl rfl <| BP.skip <| BP.one rfl rfl rfl <| BP.doneE (out := [Value.int .i64 0]) rfl) ?_
  refine L.box rfl rfl rfl (fun b21 => ?_)
  refine L.assign rfl rfl ?_
  refine L.assign rfl rfl ?_
  refine L.nil ?_
  refine T.thenN ?_
  refine T.ret ?_
  refine T.newOwn (sz := 37) (e := 96) ?_
  refine T.eqv qP (show own 37 96 none 0 0 [] = own 37 96 none 0 0 (([] : List Ord).map oC) from rfl) ?_
  exact T.ret2 rfl rfl rfl ⟨_, _, _, _, rfl, rfl, rfl⟩ qD qF
set_option maxHeartbeats 400000 in
theorem make_spec {k : Int} {tx : List UInt8} (htx : tx.length ≤ 35184372088832) : Spec Tryz.prog 43 [.int .i64 k, S tx] [] [] (fun v D' M' => v = .agg (pcells (k, oidF k tx, tx)).toArray ∧ D' = [] ∧ M' = []) := by
  refine Spec.intro (n := 12) Tryz.func43 rfl rfl (by decide) (Nat.le_of_ble_eq_true rfl) rfl (fun _ => qA) (fun _ => qA) ?_
  intro σ D M
  refine T.seq ?_
  refine T.region ?_
  refine L.alloc rfl ze81 (fun b4 => ?_)
  refine L.nil ?_
  refine T.thenN ?_
  refine T.seq ?_
  refine T.region ?_
  refine L.move rfl rfl ?_
  refine L.move rfl rfl ?_
  refine L.move rfl rfl ?_
  refine L.buildSlice rfl bs156 (by decide) (BP.one rfl rfl rfl <| BP.doneE (out := []) rfl) (fun b8 => ?_)
  refine L.toOwn (len := 1) qP (rows := [tx].map ys) (sz := 1) (by rfl) rfl (by simp) ?_
  refine L.ownRsl qP ?_
  refine L.call rfl (evs.cons rfl <| evs.cons rfl <| evs.nil) qD qS (oidof_spec (ls := [tx]) (by simpa using htx) (by simp)) ?_
  rintro _ _ _ ⟨rfl, rfl, rfl⟩
  refine L.norm qA qA ?_
  rw [show oidF k [tx].flatten = oidF k tx from by simp]
  have h32 := oidF_len k tx
  have h34 : (pcells (k, oidF k tx, tx)).length = 34 := by simp [h32]
  refine L.move rfl rfl ?_
  refine L.build rfl bu81 (BP.one rfl rfl rfl <| BP.agg rfl rfl (by first | with_reducible assumption | (simp; done) | (simp only [List.length_map]; with_reducible assumption) | (simp [*]; done) | rfl) (Nat.le_of_ble_eq_true rfl) qR <| BP.one rfl rfl rfl <| BP.doneE (out := []) rfl) ?_
  refine L.storeA ag81 rfl rfl qL qO qU qW ?_
  refine L.nil ?_
  refine T.thenN ?_
  refine T.ret ?_
  exact T.retA rfl ag81 rfl qN ⟨rfl, rfl, rfl⟩ qD qF
set_option maxHeartbeats 400000 in
theorem chunk_spec {n : Int}  : Spec Tryz.prog 21 [.int .i64 n] [] [] (fun v D' M' => v = .tuple #[.agg (wC (chW (n20 n))).toArray, .agg (pcells (1, (chI (n20 n)).1, chT (n20 n))).toArray] ∧ D' = [] ∧ M' = []) := by
  refine Spec.intro (n := 25) Tryz.func21 rfl rfl (by decide) (Nat.le_of_ble_eq_true rfl) rfl (fun _ => qA) (fun _ => qA) ?_
  intro σ D M
  have ht20 := tmod20 n
  obtain ⟨m, hm⟩ : ∃ m, m = n20 n := ⟨_, rfl⟩
  have hmb : 0 ≤ m ∧ m < 20 := by rw [hm]; exact n20_in n
  rw [← hm]
  have hi32 := (chI m).2
  have hw34 := wC_len (chW m)
  have hp34 : (pcells (1, (chI m).1, chT m)).length = 34 := by simp [hi32]
  refine T.seq ?_
  refine T.region ?_
  refine L.alloc rfl ze52 (fun b2 => ?_)
  refine L.alloc rfl ze81 (fun b3 => ?_)
  refine L.nil ?_
  refine T.thenN ?_
  refine T.seq ?_
  refine T.region ?_
  refine L.move rfl rfl ?_
  refine L.remI rfl rfl rfl (by decide) ?_
  refine L.addN rfl rfl rfl (by omega) ?_
  refine L.remI rfl rfl rfl (by decide) ?_
  refine L.known (t := 9) (u := .int .i64 m) rfl (by rw [hm]; rfl) ?_
  refine L.assign rfl rfl ?_
  refine L.nil ?_
  refine T.thenN ?_
  refine T.seq ?_
  refine T.region ?_
  refine L.move rfl rfl ?_
  refine L.convIY rfl Tryz.underlying3 Tryz.underlying5 rfl ?_
  refine L.known (t := 11) (u := Y (kb m)) rfl rfl ?_
  refine L.move rfl rfl ?_
  refine L.convIY rfl Tryz.underlying3 Tryz.underlying5 rfl ?_
  refine L.known (t := 13) (u := Y (kb m)) rfl rfl ?_
  refine L.buildSlice rfl bs97 (by decide) (BP.one rfl rfl rfl <| BP.one rfl rfl rfl <| BP.one rfl rfl rfl <| BP.doneE (out := []) rfl) (fun b14 => ?_)
  refine L.toOwn (len := 3) qP (rows := (chT m).map yr) (sz := 1) (by rfl) rfl (by simp [chT]) ?_
  refine L.ownRsl qP ?_
  refine L.bytesStr rfl Tryz.underlying97 Tryz.underlying5 Tryz.underlying9 rfl qM ?_
  refine L.callF rfl (evs.cons rfl <| evs.cons rfl <| evs.nil) qD qS (make_spec (k := 1) (tx := chT m) (by simp [chT])) (by rintro u D1 M1 ⟨rfl, rfl, rfl⟩; exact ⟨rfl, _, qA, qF⟩) ?_
  rw [chI_eq]
  refine L.alloc rfl ze81 (fun b4 => ?_)
  refine L.storeA ag81 rfl rfl qL qO qU qW ?_
  refine L.nil ?_
  refine T.freeze (A := cl b4 81 (pcells (1, (chI m).1, chT m))) qP ?_
  refine T.thenN ?_
  refine T.seq ?_
  refine T.region ?_
  refine L.assign rfl rfl ?_
  refine L.nil ?_
  refine T.thenN ?_
  refine T.seq ?_
  refine T.seq ?_
  refine T.region ?_
  refine L.move rfl rfl ?_
  refine L.remI rfl rfl rfl (by decide) ?_
  refine L.eqI rfl rfl rfl ?_
  refine L.nil ?_
  refine T.thenN ?_
  refine T.cutC (fun K' D' M' => K' = [(5, .int .i64 (chW m).2.2)] ∧ D' = [] ∧ M' = []) (M0 := []) (.cons (t := 2) rfl <| .cons (t := 3) rfl <| .cons (t := 4) rfl <| SubK.nil _) qS ?_ ?_
  · skip
    refine T.cond rfl (fun h19 => ?_) (fun h19 => ?_)
    · try simp only [decide_eq_true_eq, decide_eq_false_iff_not, Bool.not_eq_true', Bool.not_eq_false', Bool.and_eq_true, Bool.or_eq_true] at h19
      have hmo : (chW m).2.2 = 2 := by unfold chW; rw [if_pos h19]
      rw [hmo]
      refine T.region ?_
      refine L.assign rfl rfl ?_
      refine L.nil ?_
      refine T.thenN ?_
      exact T.toJoin ⟨rfl, rfl, rfl⟩ (.cons (t := 5) rfl <| SubK.nil _) (.cons (t := 2) rfl <| .cons (t := 3) rfl <| .cons (t := 4) rfl <| SubK.nil _) qD qD qF
    · try simp only [decide_eq_true_eq, decide_eq_false_iff_not, Bool.not_eq_true', Bool.not_eq_false', Bool.and_eq_true, Bool.or_eq_true] at h19
      have hmo : (chW m).2.2 = 3 := by unfold chW; rw [if_neg h19]
      rw [hmo]
      refine T.skip ?_
      refine T.thenN ?_
      exact T.toJoin ⟨rfl, rfl, rfl⟩ (.cons (t := 5) rfl <| SubK.nil _) (.cons (t := 2) rfl <| .cons (t := 3) rfl <| .cons (t := 4) rfl <| SubK.nil _) qD qD qF
  rintro _ _ _ ⟨rfl, rfl, rfl⟩
  refine T.norm3 qA qA qA ?_
  refine T.thenN ?_
  refine T.seq ?_
  refine T.regionA (clsL [1, 1, 1, 1, 1, 2, 2]) (by kernel_rfl) ?_
  refine A.takeP (i := 0) rfl rfl rfl rfl (by kernel_rfl) (by kernel_rfl) (by kernel_rfl) rfl qD ?_
  first | refine L.field0 rfl fo81_1 rfl ?_ | refine L.field rfl fo81_1 rfl ?_
  refine A.took ?_
  refine A.takeP (i := 1) rfl rfl rfl rfl (by kernel_rfl) (by kernel_rfl) (by kernel_rfl) rfl qD ?_
  refine L.loadA rfl ag50 rfl qN ?_
  refine A.took ?_
  refine A.takeP (i := 2) rfl rfl rfl rfl (by kernel_rfl) (by kernel_rfl) (by kernel_rfl) rfl qD ?_
  refine L.move rfl rfl ?_
  refine A.took ?_
  refine A.takeP (i := 3) rfl rfl rfl rfl (by kernel_rfl) (by kernel_rfl) (by kernel_rfl) rfl qD ?_
  refine L.build rfl bu52 (BP.one rfl rfl rfl <| BP.agg rfl rfl (by first | with_reducible assumption | (simp; done) | (simp only [List.length_map]; with_reducible assumption) | (simp [*]; done) | rfl) (Nat.le_of_ble_eq_true rfl) qR <| BP.one rfl rfl rfl <| BP.doneE (out := []) rfl) ?_
  refine A.took ?_
  refine A.takeP (i := 4) rfl rfl rfl rfl (by kernel_rfl) (by kernel_rfl) (by kernel_rfl) rfl qD ?_
  refine L.loadA rfl ag81 rfl qN ?_
  refine A.took ?_
  refine A.branch (is := [5]) (by kernel_rfl) (by decide) (Each.cons rfl ?_ <| Each.nil) 
  refine L.storeA ag52 rfl rfl qL qO qU qW ?_
  refine A.backT rfl qD ?_
  refine A.branch (is := [6]) (by kernel_rfl) (by decide) (Each.cons rfl ?_ <| Each.nil) 
  refine L.storeA ag81 rfl rfl qL qO qU qW ?_
  refine A.backT rfl qD ?_
  refine A.done (by kernel_rfl) ?_
  refine T.thenN ?_
  refine T.ret ?_
  refine T.clEq b2 (wC (chW m)) qP (chW_c m) ?_
  exact T.retAA rfl ag52 ag81 rfl rfl qN qN ⟨rfl, rfl, rfl⟩ qD qF
end Cv
