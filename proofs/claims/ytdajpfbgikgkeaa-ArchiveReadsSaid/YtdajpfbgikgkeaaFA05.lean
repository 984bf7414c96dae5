/-
  Facts about the types of the program, and about its fields.
-/
import Derived.Test.YtdajpfbgikgkeaaCvLe
import Derived.Test.YtdajpfbgikgkeaaCvLd
import Derived.Test.YtdajpfbgikgkeaaProg
import Derived.KernelRfl
set_option linter.unusedVariables false
set_option linter.unusedSimpArgs false
set_option linter.unusedSectionVars false
set_option maxRecDepth 10000
namespace Cv
open Go Go.Proofs
theorem fo24_2 : Fo Try.prog 24 2 2 := fun a w => by kernel_rfl
theorem sc22 : Sc Try.prog 22 := fun w => ⟨by kernel_rfl, by kernel_rfl⟩
theorem sz36 : Sz Try.prog 36 4 := fun w => by kernel_rfl
theorem ag36 : Ag Try.prog 36 4 := fun w => ⟨by kernel_rfl, by kernel_rfl⟩
theorem zv36 : ∀ w, (zeroValue 36).run Try.prog w = .ok (Value.agg #[S [], Value.int .i64 0, S [], Value.slice none 0 0]) w := fun w => by kernel_rfl
theorem ze36 : Ze Try.prog 36 [S [], Value.int .i64 0, S [], Value.slice none 0 0] := ⟨_, rfl, zv36⟩
theorem fo36_1 : Fo Try.prog 36 1 1 := fun a w => by kernel_rfl
theorem ag24 : Ag Try.prog 24 3 := fun w => ⟨by kernel_rfl, by kernel_rfl⟩
theorem zv24 : ∀ w, (zeroValue 24).run Try.prog w = .ok (Value.agg #[Value.int .i64 0, S [], Value.slice none 0 0]) w := fun w => by kernel_rfl
theorem ze24 : Ze Try.prog 24 [Value.int .i64 0, S [], Value.slice none 0 0] := ⟨_, rfl, zv24⟩
theorem sc3 : Sc Try.prog 3 := fun w => ⟨by kernel_rfl, by kernel_rfl⟩
theorem fo24_1 : Fo Try.prog 24 1 1 := fun a w => by kernel_rfl
theorem sc9 : Sc Try.prog 9 := fun w => ⟨by kernel_rfl, by kernel_rfl⟩
theorem fo24_0 : Fo Try.prog 24 0 0 := fun a w => by kernel_rfl
theorem bu24 : Bu Try.prog 24 [Value.int .i64 0, S [], Value.slice none 0 0] (fun (i : Nat) => ([(0, 1), (1, 1), (2, 1)] : List (Nat × Nat))[i]?) := bu_of Try.underlying24 zv24 rfl (fun w => by kernel_rfl)
theorem fo36_0 : Fo Try.prog 36 0 0 := fun a w => by kernel_rfl
theorem bu36 : Bu Try.prog 36 [S [], Value.int .i64 0, S [], Value.slice none 0 0] (fun (i : Nat) => ([(0, 1), (1, 3)] : List (Nat × Nat))[i]?) := bu_of Try.underlying36 zv36 rfl (fun w => by kernel_rfl)
theorem bs22 : Bs Try.prog 22 36 4 [S [], Value.int .i64 0, S [], Value.slice none 0 0] := bs_of Try.underlying22 (fun w => by kernel_rfl) zv36 rfl rfl (by decide)
theorem el36 : El Try.prog 36 4 64 := ⟨_, _, rfl, rfl, by kernel_rfl, by kernel_rfl, by kernel_rfl⟩
theorem zv3 : ∀ w, (zeroValue 3).run Try.prog w = .ok (Value.int .i64 0) w := fun w => by kernel_rfl
theorem ze3 : Ze Try.prog 3 [Value.int .i64 0] := ⟨_, rfl, zv3⟩
theorem zv67 : ∀ w, (zeroValue 67).run Try.prog w = .ok (Value.agg #[Value.int .i64 0, S [], Value.int .i64 0, S [], Value.bool false, Value.bool false, Value.bool false]) w := fun w => by kernel_rfl
theorem bu67 : Bu Try.prog 67 [Value.int .i64 0, S [], Value.int .i64 0, S [], Value.bool false, Value.bool false, Value.bool false] (fun (i : Nat) => ([(0, 1), (1, 1), (2, 1), (3, 1), (4, 1), (5, 1), (6, 1)] : List (Nat × Nat))[i]?) := bu_of Try.underlying67 zv67 rfl (fun w => by kernel_rfl)
theorem bs26 : Bs Try.prog 26 67 7 [Value.int .i64 0, S [], Value.int .i64 0, S [], Value.bool false, Value.bool false, Value.bool false] := bs_of Try.underlying26 (fun w => by kernel_rfl) zv67 rfl rfl (by decide)
theorem el67 : El Try.prog 67 7 56 := ⟨_, _, rfl, rfl, by kernel_rfl, by kernel_rfl, by kernel_rfl⟩
theorem sz67 : Sz Try.prog 67 7 := fun w => by kernel_rfl
theorem ag67 : Ag Try.prog 67 7 := fun w => ⟨by kernel_rfl, by kernel_rfl⟩
theorem ze67 : Ze Try.prog 67 [Value.int .i64 0, S [], Value.int .i64 0, S [], Value.bool false, Value.bool false, Value.bool false] := ⟨_, rfl, zv67⟩
theorem fo67_0 : Fo Try.prog 67 0 0 := fun a w => by kernel_rfl
theorem fo67_1 : Fo Try.prog 67 1 1 := fun a w => by kernel_rfl
theorem fo67_5 : Fo Try.prog 67 5 5 := fun a w => by kernel_rfl
theorem sc4 : Sc Try.prog 4 := fun w => ⟨by kernel_rfl, by kernel_rfl⟩
theorem fo67_6 : Fo Try.prog 67 6 6 := fun a w => by kernel_rfl
theorem fo67_2 : Fo Try.prog 67 2 2 := fun a w => by kernel_rfl
theorem fo67_4 : Fo Try.prog 67 4 4 := fun a w => by kernel_rfl
theorem fo67_3 : Fo Try.prog 67 3 3 := fun a w => by kernel_rfl
@[reducible] def e3 : Int → List Value | a => [.int .i64 a]
def g3 : Int → Prop | a => (-9223372036854775808 ≤ a ∧ a ≤ 9223372036854775807)
theorem el3z {H : Type} {enc : TypeId × Value → H} {W : World} {base : Nat} {sp : Nat → Bool} {held : Bool} {n : Nat} {cs : List Value} {y : DataW H × List MemPlace} (h : DataW.trod enc Try.prog W base sp held n 3 cs = some y) : ∃ z, cs = e3 z ∧ g3 z := by
  obtain ⟨n, rfl, -, hw⟩ := DataW.trod_int Try.underlying3 h
  exact ⟨n, rfl, Cv.wf64 hw⟩
theorem sz3 : Sz Try.prog 3 1 := fun w => by kernel_rfl
theorem bs110 : Bs Try.prog 110 3 1 [Value.int .i64 0] := bs_of Try.underlying110 (fun w => by kernel_rfl) zv3 rfl rfl (by decide)
theorem sz5 : Sz Try.prog 5 1 := fun w => by kernel_rfl
theorem sc5 : Sc Try.prog 5 := fun w => ⟨by kernel_rfl, by kernel_rfl⟩
theorem zv5 : ∀ w, (zeroValue 5).run Try.prog w = .ok (Value.int .u8 0) w := fun w => by kernel_rfl
theorem bs34 : Bs Try.prog 34 5 1 [Value.int .u8 0] := bs_of Try.underlying34 (fun w => by kernel_rfl) zv5 rfl rfl (by decide)
end Cv
