/-
  Facts about the types of the program, and about its fields.
-/
import Derived.Test.YtcilkdnbbebjgaaGreatCvLe
import Derived.Test.YtcilkdnbbebjgaaGreatCvLd
import Derived.Test.YtcilkdnbbebjgaaGreatCvLg
import Derived.Test.YtcilkdnbbebjgaaGreatProg
import Derived.KernelRfl
set_option linter.unusedVariables false
set_option linter.unusedSimpArgs false
set_option linter.unusedSectionVars false
set_option maxRecDepth 10000
namespace Cv
open Go Go.Proofs
theorem zv24 : ∀ w, (zeroValue 24).run Tryz.prog w = .ok (Value.agg #[Value.int .i64 0, S [], Value.slice none 0 0]) w := fun w => by kernel_rfl
theorem ze24 : Ze Tryz.prog 24 [Value.int .i64 0, S [], Value.slice none 0 0] := ⟨_, rfl, zv24⟩
theorem sc3 : Sc Tryz.prog 3 := fun w => ⟨by kernel_rfl, by kernel_rfl⟩
theorem fo24_1 : Fo Tryz.prog 24 1 1 := fun a w => by kernel_rfl
theorem sc9 : Sc Tryz.prog 9 := fun w => ⟨by kernel_rfl, by kernel_rfl⟩
theorem fo24_0 : Fo Tryz.prog 24 0 0 := fun a w => by kernel_rfl
theorem bu24 : Bu Tryz.prog 24 [Value.int .i64 0, S [], Value.slice none 0 0] (fun (i : Nat) => ([(0, 1), (1, 1), (2, 1)] : List (Nat × Nat))[i]?) := bu_of Tryz.underlying24 zv24 rfl (fun w => by kernel_rfl)
theorem ag24 : Ag Tryz.prog 24 3 := fun w => ⟨by kernel_rfl, by kernel_rfl⟩
theorem fo24_2 : Fo Tryz.prog 24 2 2 := fun a w => by kernel_rfl
theorem sc22 : Sc Tryz.prog 22 := fun w => ⟨by kernel_rfl, by kernel_rfl⟩
theorem sz142 : Sz Tryz.prog 142 4 := fun w => by kernel_rfl
theorem fo142_0 : Fo Tryz.prog 142 0 0 := fun a w => by kernel_rfl
theorem fo142_1 : Fo Tryz.prog 142 1 1 := fun a w => by kernel_rfl
theorem zv142 : ∀ w, (zeroValue 142).run Tryz.prog w = .ok (Value.agg #[S [], Value.int .i64 0, S [], Value.slice none 0 0]) w := fun w => by kernel_rfl
theorem bu142 : Bu Tryz.prog 142 [S [], Value.int .i64 0, S [], Value.slice none 0 0] (fun (i : Nat) => ([(0, 1), (1, 3)] : List (Nat × Nat))[i]?) := bu_of Tryz.underlying142 zv142 rfl (fun w => by kernel_rfl)
theorem bs22 : Bs Tryz.prog 22 142 4 [S [], Value.int .i64 0, S [], Value.slice none 0 0] := bs_of Tryz.underlying22 (fun w => by kernel_rfl) zv142 rfl rfl (by decide)
theorem el142 : El Tryz.prog 142 4 64 := ⟨_, _, rfl, rfl, by kernel_rfl, by kernel_rfl, by kernel_rfl⟩
theorem zv3 : ∀ w, (zeroValue 3).run Tryz.prog w = .ok (Value.int .i64 0) w := fun w => by kernel_rfl
theorem ze3 : Ze Tryz.prog 3 [Value.int .i64 0] := ⟨_, rfl, zv3⟩
theorem zv149 : ∀ w, (zeroValue 149).run Tryz.prog w = .ok (Value.agg #[Value.int .i64 0, S [], Value.int .i64 0, S [], Value.bool false, Value.bool false, Value.bool false]) w := fun w => by kernel_rfl
theorem bu149 : Bu Tryz.prog 149 [Value.int .i64 0, S [], Value.int .i64 0, S [], Value.bool false, Value.bool false, Value.bool false] (fun (i : Nat) => ([(0, 1), (1, 1), (2, 1), (3, 1), (4, 1), (5, 1), (6, 1)] : List (Nat × Nat))[i]?) := bu_of Tryz.underlying149 zv149 rfl (fun w => by kernel_rfl)
theorem bs47 : Bs Tryz.prog 47 149 7 [Value.int .i64 0, S [], Value.int .i64 0, S [], Value.bool false, Value.bool false, Value.bool false] := bs_of Tryz.underlying47 (fun w => by kernel_rfl) zv149 rfl rfl (by decide)
theorem ag142 : Ag Tryz.prog 142 4 := fun w => ⟨by kernel_rfl, by kernel_rfl⟩
theorem ze142 : Ze Tryz.prog 142 [S [], Value.int .i64 0, S [], Value.slice none 0 0] := ⟨_, rfl, zv142⟩
theorem el149 : El Tryz.prog 149 7 56 := ⟨_, _, rfl, rfl, by kernel_rfl, by kernel_rfl, by kernel_rfl⟩
theorem sz149 : Sz Tryz.prog 149 7 := fun w => by kernel_rfl
theorem ag149 : Ag Tryz.prog 149 7 := fun w => ⟨by kernel_rfl, by kernel_rfl⟩
theorem ze149 : Ze Tryz.prog 149 [Value.int .i64 0, S [], Value.int .i64 0, S [], Value.bool false, Value.bool false, Value.bool false] := ⟨_, rfl, zv149⟩
theorem fo149_0 : Fo Tryz.prog 149 0 0 := fun a w => by kernel_rfl
theorem fo149_1 : Fo Tryz.prog 149 1 1 := fun a w => by kernel_rfl
theorem fo149_5 : Fo Tryz.prog 149 5 5 := fun a w => by kernel_rfl
theorem sc4 : Sc Tryz.prog 4 := fun w => ⟨by kernel_rfl, by kernel_rfl⟩
theorem fo149_6 : Fo Tryz.prog 149 6 6 := fun a w => by kernel_rfl
theorem fo149_2 : Fo Tryz.prog 149 2 2 := fun a w => by kernel_rfl
theorem fo149_4 : Fo Tryz.prog 149 4 4 := fun a w => by kernel_rfl
theorem fo149_3 : Fo Tryz.prog 149 3 3 := fun a w => by kernel_rfl
@[reducible] def e3 : Int → List Value | a => [.int .i64 a]
def g3 : Int → Prop | a => (-9223372036854775808 ≤ a ∧ a ≤ 9223372036854775807)
theorem sz3 : Sz Tryz.prog 3 1 := fun w => by kernel_rfl
theorem bs171 : Bs Tryz.prog 171 3 1 [Value.int .i64 0] := bs_of Tryz.underlying171 (fun w => by kernel_rfl) zv3 rfl rfl (by decide)
theorem sz5 : Sz Tryz.prog 5 1 := fun w => by kernel_rfl
theorem sc5 : Sc Tryz.prog 5 := fun w => ⟨by kernel_rfl, by kernel_rfl⟩
theorem el5 : El Tryz.prog 5 1 1 := ⟨_, _, rfl, rfl, by kernel_rfl, by kernel_rfl, by kernel_rfl⟩
theorem zv5 : ∀ w, (zeroValue 5).run Tryz.prog w = .ok (Value.int .u8 0) w := fun w => by kernel_rfl
theorem bs97 : Bs Tryz.prog 97 5 1 [Value.int .u8 0] := bs_of Tryz.underlying97 (fun w => by kernel_rfl) zv5 rfl rfl (by decide)
theorem fo128_0 : Fo Tryz.prog 128 0 0 := fun a w => by kernel_rfl
theorem sc126 : Sc Tryz.prog 126 := fun w => ⟨by kernel_rfl, by kernel_rfl⟩
theorem fo128_1 : Fo Tryz.prog 128 1 1 := fun a w => by kernel_rfl
theorem sc97 : Sc Tryz.prog 97 := fun w => ⟨by kernel_rfl, by kernel_rfl⟩
theorem zv128 : ∀ w, (zeroValue 128).run Tryz.prog w = .ok (Value.agg #[Value.pointer none, Value.slice none 0 0]) w := fun w => by kernel_rfl
theorem ze128 : Ze Tryz.prog 128 [Value.pointer none, Value.slice none 0 0] := ⟨_, rfl, zv128⟩
theorem zv235 : ∀ w, (zeroValue 235).run Tryz.prog w = .ok (Value.agg #[Value.int .u32 0, Value.int .u32 0, Value.int .u32 0, Value.int .u32 0, Value.int .u32 0, Value.int .u32 0, Value.int .u32 0, Value.int .u32 0, Value.int .u32 0, Value.int .u32 0, Value.int .u32 0, Value.int .u32 0, Value.int .u32 0, Value.int .u32 0, Value.int .u32 0, Value.int .u32 0, Value.int .u32 0, Value.int .u32 0, Value.int .u32 0, Value.int .u32 0, Value.int .u32 0, Value.int .u32 0, Value.int .u32 0, Value.int .u32 0, Value.int .u32 0, Value.int .u32 0, Value.int .u32 0, Value.int .u32 0, Value.int .u32 0, Value.int .u32 0, Value.int .u32 0, Value.int .u32 0, Value.int .u32 0, Value.int .u32 0, Value.int .u32 0, Value.int .u32 0, Value.int .u32 0, Value.int .u32 0, Value.int .u32 0, Value.int .u32 0, Value.int .u32 0, Value.int .u32 0, Value.int .u32 0, Value.int .u32 0, Value.int .u32 0, Value.int .u32 0, Value.int .u32 0, Value.int .u32 0, Value.int .u32 0, Value.int .u32 0, Value.int .u32 0, Value.int .u32 0, Value.int .u32 0, Value.int .u32 0, Value.int .u32 0, Value.int .u32 0, Value.int .u32 0, Value.int .u32 0, Value.int .u32 0, Value.int .u32 0, Value.int .u32 0, Value.int .u32 0, Value.int .u32 0, Value.int .u32 0]) w := fun w => by kernel_rfl
theorem ze235 : Ze Tryz.prog 235 ((List.replicate 64 (0 : BitVec 32)).map W) := ⟨_, rfl, zv235⟩
theorem sz163 : Sz Tryz.prog 163 1 := fun w => by kernel_rfl
theorem bua235 : Bu Tryz.prog 235 [Value.int .u32 0, Value.int .u32 0, Value.int .u32 0, Value.int .u32 0, Value.int .u32 0, Value.int .u32 0, Value.int .u32 0, Value.int .u32 0, Value.int .u32 0, Value.int .u32 0, Value.int .u32 0, Value.int .u32 0, Value.int .u32 0, Value.int .u32 0, Value.int .u32 0, Value.int .u32 0, Value.int .u32 0, Value.int .u32 0, Value.int .u32 0, Value.int .u32 0, Value.int .u32 0, Value.int .u32 0, Value.int .u32 0, Value.int .u32 0, Value.int .u32 0, Value.int .u32 0, Value.int .u32 0, Value.int .u32 0, Value.int .u32 0, Value.int .u32 0, Value.int .u32 0, Value.int .u32 0, Value.int .u32 0, Value.int .u32 0, Value.int .u32 0, Value.int .u32 0, Value.int .u32 0, Value.int .u32 0, Value.int .u32 0, Value.int .u32 0, Value.int .u32 0, Value.int .u32 0, Value.int .u32 0, Value.int .u32 0, Value.int .u32 0, Value.int .u32 0, Value.int .u32 0, Value.int .u32 0, Value.int .u32 0, Value.int .u32 0, Value.int .u32 0, Value.int .u32 0, Value.int .u32 0, Value.int .u32 0, Value.int .u32 0, Value.int .u32 0, Value.int .u32 0, Value.int .u32 0, Value.int .u32 0, Value.int .u32 0, Value.int .u32 0, Value.int .u32 0, Value.int .u32 0, Value.int .u32 0] (fun (i : Nat) => some (i * 1, 1)) := bua_of Tryz.underlying235 zv235 rfl sz163
theorem ag235 : Ag Tryz.prog 235 64 := fun w => ⟨by kernel_rfl, by kernel_rfl⟩
theorem sc163 : Sc Tryz.prog 163 := fun w => ⟨by kernel_rfl, by kernel_rfl⟩
theorem fo209_0 : Fo Tryz.prog 209 0 0 := fun a w => by kernel_rfl
theorem ag207 : Ag Tryz.prog 207 8 := fun w => ⟨by kernel_rfl, by kernel_rfl⟩
theorem zv207 : ∀ w, (zeroValue 207).run Tryz.prog w = .ok (Value.agg #[Value.int .u32 0, Value.int .u32 0, Value.int .u32 0, Value.int .u32 0, Value.int .u32 0, Value.int .u32 0, Value.int .u32 0, Value.int .u32 0]) w := fun w => by kernel_rfl
theorem ze207 : Ze Tryz.prog 207 ((List.replicate 8 (0 : BitVec 32)).map W) := ⟨_, rfl, zv207⟩
theorem bua207 : Bu Tryz.prog 207 [Value.int .u32 0, Value.int .u32 0, Value.int .u32 0, Value.int .u32 0, Value.int .u32 0, Value.int .u32 0, Value.int .u32 0, Value.int .u32 0] (fun (i : Nat) => some (i * 1, 1)) := bua_of Tryz.underlying207 zv207 rfl sz163
theorem zv209 : ∀ w, (zeroValue 209).run Tryz.prog w = .ok (Value.agg #[Value.int .u32 0, Value.int .u32 0, Value.int .u32 0, Value.int .u32 0, Value.int .u32 0, Value.int .u32 0, Value.int .u32 0, Value.int .u32 0, Value.slice none 0 0, Value.int .u64 0]) w := fun w => by kernel_rfl
theorem bu209 : Bu Tryz.prog 209 [Value.int .u32 0, Value.int .u32 0, Value.int .u32 0, Value.int .u32 0, Value.int .u32 0, Value.int .u32 0, Value.int .u32 0, Value.int .u32 0, Value.slice none 0 0, Value.int .u64 0] (fun (i : Nat) => ([(0, 8), (8, 1), (9, 1)] : List (Nat × Nat))[i]?) := bu_of Tryz.underlying209 zv209 rfl (fun w => by kernel_rfl)
theorem sz9 : Sz Tryz.prog 9 1 := fun w => by kernel_rfl
theorem fo209_2 : Fo Tryz.prog 209 2 9 := fun a w => by kernel_rfl
theorem sc117 : Sc Tryz.prog 117 := fun w => ⟨by kernel_rfl, by kernel_rfl⟩
theorem fo209_1 : Fo Tryz.prog 209 1 8 := fun a w => by kernel_rfl
theorem zv30 : ∀ w, (zeroValue 30).run Tryz.prog w = .ok (Value.agg #[Value.int .u8 0, Value.int .u8 0, Value.int .u8 0, Value.int .u8 0, Value.int .u8 0, Value.int .u8 0, Value.int .u8 0, Value.int .u8 0, Value.int .u8 0, Value.int .u8 0, Value.int .u8 0, Value.int .u8 0, Value.int .u8 0, Value.int .u8 0, Value.int .u8 0, Value.int .u8 0, Value.int .u8 0, Value.int .u8 0, Value.int .u8 0, Value.int .u8 0, Value.int .u8 0, Value.int .u8 0, Value.int .u8 0, Value.int .u8 0, Value.int .u8 0, Value.int .u8 0, Value.int .u8 0, Value.int .u8 0, Value.int .u8 0, Value.int .u8 0, Value.int .u8 0, Value.int .u8 0]) w := fun w => by kernel_rfl
theorem ze30 : Ze Tryz.prog 30 ((List.replicate 32 (0 : UInt8)).map Y) := ⟨_, rfl, zv30⟩
theorem ag209 : Ag Tryz.prog 209 10 := fun w => ⟨by kernel_rfl, by kernel_rfl⟩
theorem ze209 : Ze Tryz.prog 209 [Value.int .u32 0, Value.int .u32 0, Value.int .u32 0, Value.int .u32 0, Value.int .u32 0, Value.int .u32 0, Value.int .u32 0, Value.int .u32 0, Value.slice none 0 0, Value.int .u64 0] := ⟨_, rfl, zv209⟩
theorem ag30 : Ag Tryz.prog 30 32 := fun w => ⟨by kernel_rfl, by kernel_rfl⟩
theorem zv31 : ∀ w, (zeroValue 31).run Tryz.prog w = .ok (Value.agg #[Value.int .u8 0, Value.int .u8 0, Value.int .u8 0, Value.int .u8 0, Value.int .u8 0, Value.int .u8 0, Value.int .u8 0, Value.int .u8 0, Value.int .u8 0, Value.int .u8 0, Value.int .u8 0, Value.int .u8 0, Value.int .u8 0, Value.int .u8 0, Value.int .u8 0, Value.int .u8 0, Value.int .u8 0, Value.int .u8 0, Value.int .u8 0, Value.int .u8 0, Value.int .u8 0, Value.int .u8 0, Value.int .u8 0, Value.int .u8 0, Value.int .u8 0, Value.int .u8 0, Value.int .u8 0, Value.int .u8 0, Value.int .u8 0, Value.int .u8 0, Value.int .u8 0, Value.int .u8 0]) w := fun w => by kernel_rfl
theorem ze31 : Ze Tryz.prog 31 ((List.replicate 32 (0 : UInt8)).map Y) := ⟨_, rfl, zv31⟩
theorem zv9 : ∀ w, (zeroValue 9).run Tryz.prog w = .ok (S []) w := fun w => by kernel_rfl
theorem bs25 : Bs Tryz.prog 25 9 1 [S []] := bs_of Tryz.underlying25 (fun w => by kernel_rfl) zv9 rfl rfl (by decide)
theorem ag31 : Ag Tryz.prog 31 32 := fun w => ⟨by kernel_rfl, by kernel_rfl⟩
theorem zv163 : ∀ w, (zeroValue 163).run Tryz.prog w = .ok (Value.int .u32 0) w := fun w => by kernel_rfl
theorem bs211 : Bs Tryz.prog 211 163 1 [Value.int .u32 0] := bs_of Tryz.underlying211 (fun w => by kernel_rfl) zv163 rfl rfl (by decide)
theorem el163 : El Tryz.prog 163 1 4 := ⟨_, _, rfl, rfl, by kernel_rfl, by kernel_rfl, by kernel_rfl⟩
theorem sc244 : Sc Tryz.prog 244 := fun w => ⟨by kernel_rfl, by kernel_rfl⟩
theorem sz31 : Sz Tryz.prog 31 32 := fun w => by kernel_rfl
theorem zv244 : ∀ w, (zeroValue 244).run Tryz.prog w = .ok (Value.int .u64 0) w := fun w => by kernel_rfl
theorem ze244 : Ze Tryz.prog 244 [Value.int .u64 0] := ⟨_, rfl, zv244⟩
end Cv
