/-
  Facts about the types of the program, and about its fields.
-/
import Derived.Test.YtahkbpiinbepcaaGreatCvLc
import Derived.Test.YtahkbpiinbepcaaGreatCvLe
import Derived.Test.YtahkbpiinbepcaaGreatCvLd
import Derived.Test.YtahkbpiinbepcaaGreatCvLg
import Derived.Test.YtahkbpiinbepcaaGreatProg
import Derived.KernelRfl
set_option linter.unusedVariables false
set_option linter.unusedSimpArgs false
set_option linter.unusedSectionVars false
set_option linter.defProp false
set_option maxRecDepth 10000
namespace Cv
open Go Go.Proofs
theorem fo133_0 : Fo Tryz.prog 133 0 0 := fun a w => by kernel_rfl
theorem sc3 : Sc Tryz.prog 3 := fun w => ⟨by kernel_rfl, by kernel_rfl⟩
theorem fo133_2 : Fo Tryz.prog 133 2 2 := fun a w => by kernel_rfl
theorem sc131 : Sc Tryz.prog 131 := fun w => ⟨by kernel_rfl, by kernel_rfl⟩
theorem fo133_1 : Fo Tryz.prog 133 1 1 := fun a w => by kernel_rfl
theorem sc9 : Sc Tryz.prog 9 := fun w => ⟨by kernel_rfl, by kernel_rfl⟩
theorem sz255 : Sz Tryz.prog 255 4 := fun w => by kernel_rfl
theorem ag255 : Ag Tryz.prog 255 4 := fun w => ⟨by kernel_rfl, by kernel_rfl⟩
theorem zv255 : ∀ w, (zeroValue 255).run Tryz.prog w = .ok (Value.agg #[S [], Value.int .i64 0, S [], Value.slice none 0 0]) w := fun w => by kernel_rfl
theorem ze255 : Ze Tryz.prog 255 [S [], Value.int .i64 0, S [], Value.slice none 0 0] := ⟨_, rfl, zv255⟩
theorem fo255_0 : Fo Tryz.prog 255 0 0 := fun a w => by kernel_rfl
theorem fo255_1 : Fo Tryz.prog 255 1 1 := fun a w => by kernel_rfl
theorem ag133 : Ag Tryz.prog 133 3 := fun w => ⟨by kernel_rfl, by kernel_rfl⟩
@[reducible] def e3 : Int → List Value | a => [.int .i64 a]
def g3 : Int → Prop | a => (-9223372036854775808 ≤ a ∧ a ≤ 9223372036854775807)
theorem zv3 : ∀ w, (zeroValue 3).run Tryz.prog w = .ok (Value.int .i64 0) w := fun w => by kernel_rfl
theorem el5 : El Tryz.prog 5 1 1 := ⟨_, _, rfl, rfl, by kernel_rfl, by kernel_rfl, by kernel_rfl⟩
theorem zv5 : ∀ w, (zeroValue 5).run Tryz.prog w = .ok (Value.int .u8 0) w := fun w => by kernel_rfl
theorem bs128 : Bs Tryz.prog 128 5 1 [Value.int .u8 0] := bs_of Tryz.underlying128 (fun w => by kernel_rfl) zv5 rfl rfl (by decide)
theorem sz3 : Sz Tryz.prog 3 1 := fun w => by kernel_rfl
theorem fo216_0 : Fo Tryz.prog 216 0 0 := fun a w => by kernel_rfl
theorem sc214 : Sc Tryz.prog 214 := fun w => ⟨by kernel_rfl, by kernel_rfl⟩
theorem fo216_1 : Fo Tryz.prog 216 1 1 := fun a w => by kernel_rfl
theorem sc128 : Sc Tryz.prog 128 := fun w => ⟨by kernel_rfl, by kernel_rfl⟩
theorem bs22 : Bs Tryz.prog 22 3 1 [Value.int .i64 0] := bs_of Tryz.underlying22 (fun w => by kernel_rfl) zv3 rfl rfl (by decide)
theorem zv216 : ∀ w, (zeroValue 216).run Tryz.prog w = .ok (Value.agg #[Value.pointer none, Value.slice none 0 0]) w := fun w => by kernel_rfl
theorem ze216 : Ze Tryz.prog 216 [Value.pointer none, Value.slice none 0 0] := ⟨_, rfl, zv216⟩
theorem zv233 : ∀ w, (zeroValue 233).run Tryz.prog w = .ok (Value.agg #[S [], Value.int .i64 0]) w := fun w => by kernel_rfl
theorem bu233 : Bu Tryz.prog 233 [S [], Value.int .i64 0] (fun (i : Nat) => ([(0, 1), (1, 1)] : List (Nat × Nat))[i]?) := bu_of Tryz.underlying233 zv233 rfl (fun w => by kernel_rfl)
theorem fo233_1 : Fo Tryz.prog 233 1 1 := fun a w => by kernel_rfl
theorem sc39 : Sc Tryz.prog 39 := fun w => ⟨by kernel_rfl, by kernel_rfl⟩
theorem fo233_0 : Fo Tryz.prog 233 0 0 := fun a w => by kernel_rfl
theorem sz5 : Sz Tryz.prog 5 1 := fun w => by kernel_rfl
theorem sc5 : Sc Tryz.prog 5 := fun w => ⟨by kernel_rfl, by kernel_rfl⟩
theorem zv165 : ∀ w, (zeroValue 165).run Tryz.prog w = .ok (Value.agg #[S [], Value.int .i64 0]) w := fun w => by kernel_rfl
theorem ze165 : Ze Tryz.prog 165 [S [], Value.int .i64 0] := ⟨_, rfl, zv165⟩
theorem fo165_1 : Fo Tryz.prog 165 1 1 := fun a w => by kernel_rfl
theorem ag165 : Ag Tryz.prog 165 2 := fun w => ⟨by kernel_rfl, by kernel_rfl⟩
theorem fo165_0 : Fo Tryz.prog 165 0 0 := fun a w => by kernel_rfl
theorem bu165 : Bu Tryz.prog 165 [S [], Value.int .i64 0] (fun (i : Nat) => ([(0, 1), (1, 1)] : List (Nat × Nat))[i]?) := bu_of Tryz.underlying165 zv165 rfl (fun w => by kernel_rfl)
theorem zv246 : ∀ w, (zeroValue 246).run Tryz.prog w = .ok (Value.agg #[Value.int .u32 0, Value.int .u32 0, Value.int .u32 0, Value.int .u32 0, Value.int .u32 0, Value.int .u32 0, Value.int .u32 0, Value.int .u32 0, Value.int .u32 0, Value.int .u32 0, Value.int .u32 0, Value.int .u32 0, Value.int .u32 0, Value.int .u32 0, Value.int .u32 0, Value.int .u32 0, Value.int .u32 0, Value.int .u32 0, Value.int .u32 0, Value.int .u32 0, Value.int .u32 0, Value.int .u32 0, Value.int .u32 0, Value.int .u32 0, Value.int .u32 0, Value.int .u32 0, Value.int .u32 0, Value.int .u32 0, Value.int .u32 0, Value.int .u32 0, Value.int .u32 0, Value.int .u32 0, Value.int .u32 0, Value.int .u32 0, Value.int .u32 0, Value.int .u32 0, Value.int .u32 0, Value.int .u32 0, Value.int .u32 0, Value.int .u32 0, Value.int .u32 0, Value.int .u32 0, Value.int .u32 0, Value.int .u32 0, Value.int .u32 0, Value.int .u32 0, Value.int .u32 0, Value.int .u32 0, Value.int .u32 0, Value.int .u32 0, Value.int .u32 0, Value.int .u32 0, Value.int .u32 0, Value.int .u32 0, Value.int .u32 0, Value.int .u32 0, Value.int .u32 0, Value.int .u32 0, Value.int .u32 0, Value.int .u32 0, Value.int .u32 0, Value.int .u32 0, Value.int .u32 0, Value.int .u32 0]) w := fun w => by kernel_rfl
theorem ze246 : Ze Tryz.prog 246 ((List.replicate 64 (0 : BitVec 32)).map W) := ⟨_, rfl, zv246⟩
theorem sz208 : Sz Tryz.prog 208 1 := fun w => by kernel_rfl
theorem bua246 : Bu Tryz.prog 246 [Value.int .u32 0, Value.int .u32 0, Value.int .u32 0, Value.int .u32 0, Value.int .u32 0, Value.int .u32 0, Value.int .u32 0, Value.int .u32 0, Value.int .u32 0, Value.int .u32 0, Value.int .u32 0, Value.int .u32 0, Value.int .u32 0, Value.int .u32 0, Value.int .u32 0, Value.int .u32 0, Value.int .u32 0, Value.int .u32 0, Value.int .u32 0, Value.int .u32 0, Value.int .u32 0, Value.int .u32 0, Value.int .u32 0, Value.int .u32 0, Value.int .u32 0, Value.int .u32 0, Value.int .u32 0, Value.int .u32 0, Value.int .u32 0, Value.int .u32 0, Value.int .u32 0, Value.int .u32 0, Value.int .u32 0, Value.int .u32 0, Value.int .u32 0, Value.int .u32 0, Value.int .u32 0, Value.int .u32 0, Value.int .u32 0, Value.int .u32 0, Value.int .u32 0, Value.int .u32 0, Value.int .u32 0, Value.int .u32 0, Value.int .u32 0, Value.int .u32 0, Value.int .u32 0, Value.int .u32 0, Value.int .u32 0, Value.int .u32 0, Value.int .u32 0, Value.int .u32 0, Value.int .u32 0, Value.int .u32 0, Value.int .u32 0, Value.int .u32 0, Value.int .u32 0, Value.int .u32 0, Value.int .u32 0, Value.int .u32 0, Value.int .u32 0, Value.int .u32 0, Value.int .u32 0, Value.int .u32 0] (fun (i : Nat) => some (i * 1, 1)) := bua_of Tryz.underlying246 zv246 rfl sz208
theorem ag246 : Ag Tryz.prog 246 64 := fun w => ⟨by kernel_rfl, by kernel_rfl⟩
theorem sc208 : Sc Tryz.prog 208 := fun w => ⟨by kernel_rfl, by kernel_rfl⟩
theorem fo212_0 : Fo Tryz.prog 212 0 0 := fun a w => by kernel_rfl
theorem ag210 : Ag Tryz.prog 210 8 := fun w => ⟨by kernel_rfl, by kernel_rfl⟩
theorem zv210 : ∀ w, (zeroValue 210).run Tryz.prog w = .ok (Value.agg #[Value.int .u32 0, Value.int .u32 0, Value.int .u32 0, Value.int .u32 0, Value.int .u32 0, Value.int .u32 0, Value.int .u32 0, Value.int .u32 0]) w := fun w => by kernel_rfl
theorem ze210 : Ze Tryz.prog 210 ((List.replicate 8 (0 : BitVec 32)).map W) := ⟨_, rfl, zv210⟩
theorem bua210 : Bu Tryz.prog 210 [Value.int .u32 0, Value.int .u32 0, Value.int .u32 0, Value.int .u32 0, Value.int .u32 0, Value.int .u32 0, Value.int .u32 0, Value.int .u32 0] (fun (i : Nat) => some (i * 1, 1)) := bua_of Tryz.underlying210 zv210 rfl sz208
theorem zv212 : ∀ w, (zeroValue 212).run Tryz.prog w = .ok (Value.agg #[Value.int .u32 0, Value.int .u32 0, Value.int .u32 0, Value.int .u32 0, Value.int .u32 0, Value.int .u32 0, Value.int .u32 0, Value.int .u32 0, Value.slice none 0 0, Value.int .u64 0]) w := fun w => by kernel_rfl
theorem bu212 : Bu Tryz.prog 212 [Value.int .u32 0, Value.int .u32 0, Value.int .u32 0, Value.int .u32 0, Value.int .u32 0, Value.int .u32 0, Value.int .u32 0, Value.int .u32 0, Value.slice none 0 0, Value.int .u64 0] (fun (i : Nat) => ([(0, 8), (8, 1), (9, 1)] : List (Nat × Nat))[i]?) := bu_of Tryz.underlying212 zv212 rfl (fun w => by kernel_rfl)
theorem sz9 : Sz Tryz.prog 9 1 := fun w => by kernel_rfl
theorem fo212_2 : Fo Tryz.prog 212 2 9 := fun a w => by kernel_rfl
theorem sc176 : Sc Tryz.prog 176 := fun w => ⟨by kernel_rfl, by kernel_rfl⟩
theorem fo212_1 : Fo Tryz.prog 212 1 8 := fun a w => by kernel_rfl
theorem zv37 : ∀ w, (zeroValue 37).run Tryz.prog w = .ok (Value.agg #[Value.int .u8 0, Value.int .u8 0, Value.int .u8 0, Value.int .u8 0, Value.int .u8 0, Value.int .u8 0, Value.int .u8 0, Value.int .u8 0, Value.int .u8 0, Value.int .u8 0, Value.int .u8 0, Value.int .u8 0, Value.int .u8 0, Value.int .u8 0, Value.int .u8 0, Value.int .u8 0, Value.int .u8 0, Value.int .u8 0, Value.int .u8 0, Value.int .u8 0, Value.int .u8 0, Value.int .u8 0, Value.int .u8 0, Value.int .u8 0, Value.int .u8 0, Value.int .u8 0, Value.int .u8 0, Value.int .u8 0, Value.int .u8 0, Value.int .u8 0, Value.int .u8 0, Value.int .u8 0]) w := fun w => by kernel_rfl
theorem ze37 : Ze Tryz.prog 37 ((List.replicate 32 (0 : UInt8)).map Y) := ⟨_, rfl, zv37⟩
theorem ag212 : Ag Tryz.prog 212 10 := fun w => ⟨by kernel_rfl, by kernel_rfl⟩
theorem ze212 : Ze Tryz.prog 212 [Value.int .u32 0, Value.int .u32 0, Value.int .u32 0, Value.int .u32 0, Value.int .u32 0, Value.int .u32 0, Value.int .u32 0, Value.int .u32 0, Value.slice none 0 0, Value.int .u64 0] := ⟨_, rfl, zv212⟩
theorem ag37 : Ag Tryz.prog 37 32 := fun w => ⟨by kernel_rfl, by kernel_rfl⟩
theorem zv38 : ∀ w, (zeroValue 38).run Tryz.prog w = .ok (Value.agg #[Value.int .u8 0, Value.int .u8 0, Value.int .u8 0, Value.int .u8 0, Value.int .u8 0, Value.int .u8 0, Value.int .u8 0, Value.int .u8 0, Value.int .u8 0, Value.int .u8 0, Value.int .u8 0, Value.int .u8 0, Value.int .u8 0, Value.int .u8 0, Value.int .u8 0, Value.int .u8 0, Value.int .u8 0, Value.int .u8 0, Value.int .u8 0, Value.int .u8 0, Value.int .u8 0, Value.int .u8 0, Value.int .u8 0, Value.int .u8 0, Value.int .u8 0, Value.int .u8 0, Value.int .u8 0, Value.int .u8 0, Value.int .u8 0, Value.int .u8 0, Value.int .u8 0, Value.int .u8 0]) w := fun w => by kernel_rfl
theorem ze38 : Ze Tryz.prog 38 ((List.replicate 32 (0 : UInt8)).map Y) := ⟨_, rfl, zv38⟩
theorem zv9 : ∀ w, (zeroValue 9).run Tryz.prog w = .ok (S []) w := fun w => by kernel_rfl
theorem bs31 : Bs Tryz.prog 31 9 1 [S []] := bs_of Tryz.underlying31 (fun w => by kernel_rfl) zv9 rfl rfl (by decide)
theorem ag38 : Ag Tryz.prog 38 32 := fun w => ⟨by kernel_rfl, by kernel_rfl⟩
theorem sc268 : Sc Tryz.prog 268 := fun w => ⟨by kernel_rfl, by kernel_rfl⟩
theorem sz38 : Sz Tryz.prog 38 32 := fun w => by kernel_rfl
theorem ze3 : Ze Tryz.prog 3 [Value.int .i64 0] := ⟨_, rfl, zv3⟩
theorem zv268 : ∀ w, (zeroValue 268).run Tryz.prog w = .ok (Value.int .u64 0) w := fun w => by kernel_rfl
theorem ze268 : Ze Tryz.prog 268 [Value.int .u64 0] := ⟨_, rfl, zv268⟩
theorem zv228 : ∀ w, (zeroValue 228).run Tryz.prog w = .ok (Value.agg #[Value.int .u64 0, Value.int .u64 0, Value.int .u64 0, Value.int .u64 0, Value.int .u64 0, Value.int .u64 0, Value.int .u64 0, Value.int .u64 0, Value.int .u64 0, Value.int .u64 0, Value.int .u64 0, Value.int .u64 0, Value.int .u64 0, Value.int .u64 0, Value.int .u64 0, Value.int .u64 0, Value.int .u64 0, Value.int .u64 0, Value.int .u64 0, Value.int .u64 0, Value.int .u64 0, Value.int .u64 0, Value.int .u64 0, Value.int .u64 0, Value.int .u64 0, Value.int .u64 0, Value.int .u64 0, Value.int .u64 0, Value.int .u64 0, Value.int .u64 0, Value.int .u64 0, Value.int .u64 0, Value.int .u64 0, Value.int .u64 0, Value.int .u64 0, Value.int .u64 0, Value.int .u64 0, Value.int .u64 0, Value.int .u64 0, Value.int .u64 0, Value.int .u64 0, Value.int .u64 0, Value.int .u64 0, Value.int .u64 0, Value.int .u64 0, Value.int .u64 0, Value.int .u64 0, Value.int .u64 0, Value.int .u64 0, Value.int .u64 0, Value.int .u64 0, Value.int .u64 0, Value.int .u64 0, Value.int .u64 0, Value.int .u64 0, Value.int .u64 0, Value.int .u64 0, Value.int .u64 0, Value.int .u64 0, Value.int .u64 0, Value.int .u64 0, Value.int .u64 0, Value.int .u64 0, Value.int .u64 0, Value.int .u64 0, Value.int .u64 0, Value.int .u64 0, Value.int .u64 0, Value.int .u64 0, Value.int .u64 0, Value.int .u64 0, Value.int .u64 0, Value.int .u64 0, Value.int .u64 0, Value.int .u64 0, Value.int .u64 0, Value.int .u64 0, Value.int .u64 0, Value.int .u64 0, Value.int .u64 0, Value.int .u64 0, Value.int .u64 0, Value.int .u64 0, Value.int .u64 0, Value.int .u64 0, Value.int .u64 0, Value.int .u64 0, Value.int .u64 0, Value.int .u64 0, Value.int .u64 0, Value.int .u64 0, Value.int .u64 0, Value.int .u64 0, Value.int .u64 0, Value.int .u64 0, Value.int .u64 0, Value.int .u64 0, Value.int .u64 0, Value.int .u64 0, Value.int .u64 0, Value.int .u64 0, Value.int .u64 0, Value.int .u64 0, Value.int .u64 0, Value.int .u64 0, Value.int .u64 0, Value.int .u64 0, Value.int .u64 0, Value.int .u64 0, Value.int .u64 0, Value.int .u64 0, Value.int .u64 0, Value.int .u64 0, Value.int .u64 0, Value.int .u64 0, Value.int .u64 0, Value.int .u64 0, Value.int .u64 0, Value.int .u64 0, Value.int .u64 0, Value.int .u64 0, Value.int .u64 0, Value.int .u64 0, Value.int .u64 0, Value.int .u64 0, Value.int .u64 0, Value.int .u64 0, Value.int .u64 0, Value.int .u64 0, Value.int .u64 0, Value.int .u64 0, Value.int .u64 0, Value.int .u64 0, Value.int .u64 0, Value.int .u64 0, Value.int .u64 0, Value.int .u64 0, Value.int .u64 0, Value.int .u64 0, Value.int .u64 0, Value.int .u64 0, Value.int .u64 0, Value.int .u64 0, Value.int .u64 0, Value.int .u64 0, Value.int .u64 0, Value.int .u64 0, Value.int .u64 0, Value.int .u64 0, Value.int .u64 0, Value.int .u64 0, Value.int .u64 0, Value.int .u64 0, Value.int .u64 0, Value.int .u64 0, Value.int .u64 0, Value.int .u64 0, Value.int .u64 0, Value.int .u64 0, Value.int .u64 0, Value.int .u64 0, Value.int .u64 0, Value.int .u64 0, Value.int .u64 0, Value.int .u64 0, Value.int .u64 0, Value.int .u64 0, Value.int .u64 0, Value.int .u64 0, Value.int .u64 0, Value.int .u64 0, Value.int .u64 0, Value.int .u64 0, Value.int .u64 0, Value.int .u64 0, Value.int .u64 0, Value.int .u64 0, Value.int .u64 0, Value.int .u64 0, Value.int .u64 0, Value.int .u64 0, Value.int .u64 0, Value.int .u64 0, Value.int .u64 0, Value.int .u64 0, Value.int .u64 0, Value.int .u64 0, Value.int .u64 0, Value.int .u64 0, Value.int .u64 0, Value.int .u64 0, Value.int .u64 0, Value.int .u64 0, Value.int .u64 0, Value.int .u64 0, Value.int .u64 0, Value.int .u64 0, Value.int .u64 0, Value.int .u64 0, Value.int .u64 0, Value.int .u64 0, Value.int .u64 0, Value.int .u64 0, Value.int .u64 0, Value.int .u64 0, Value.int .u64 0, Value.int .u64 0, Value.int .u64 0, Value.int .u64 0, Value.int .u64 0, Value.int .u64 0, Value.int .u64 0, Value.int .u64 0, Value.int .u64 0, Value.int .u64 0, Value.int .u64 0, Value.int .u64 0, Value.int .u64 0, Value.int .u64 0, Value.int .u64 0, Value.int .u64 0, Value.int .u64 0, Value.int .u64 0, Value.int .u64 0, Value.int .u64 0, Value.int .u64 0, Value.int .u64 0, Value.int .u64 0, Value.int .u64 0, Value.int .u64 0, Value.int .u64 0, Value.int .u64 0, Value.int .u64 0, Value.int .u64 0, Value.int .u64 0, Value.int .u64 0, Value.int .u64 0, Value.int .u64 0, Value.int .u64 0, Value.int .u64 0, Value.int .u64 0, Value.int .u64 0, Value.int .u64 0, Value.int .u64 0, Value.int .u64 0, Value.int .u64 0, Value.int .u64 0, Value.int .u64 0, Value.int .u64 0, Value.int .u64 0, Value.int .u64 0, Value.int .u64 0, Value.int .u64 0, Value.int .u64 0, Value.int .u64 0, Value.int .u64 0]) w := fun w => by kernel_rfl
theorem ze228 : Ze Tryz.prog 228 ((List.replicate 256 (0 : Int)).map (Value.int .u64)) := ⟨_, rfl, zv228⟩
theorem sz176 : Sz Tryz.prog 176 1 := fun w => by kernel_rfl
theorem zv288 : ∀ w, (zeroValue 288).run Tryz.prog w = .ok (Value.agg #[Value.pointer none, Value.int .u64 0, Value.int .i64 0]) w := fun w => by kernel_rfl
theorem bu288 : Bu Tryz.prog 288 [Value.pointer none, Value.int .u64 0, Value.int .i64 0] (fun (i : Nat) => ([(0, 1), (1, 1), (2, 1)] : List (Nat × Nat))[i]?) := bu_of Tryz.underlying288 zv288 rfl (fun w => by kernel_rfl)
theorem fo288_1 : Fo Tryz.prog 288 1 1 := fun a w => by kernel_rfl
theorem fo288_0 : Fo Tryz.prog 288 0 0 := fun a w => by kernel_rfl
theorem sc182 : Sc Tryz.prog 182 := fun w => ⟨by kernel_rfl, by kernel_rfl⟩
theorem fo288_2 : Fo Tryz.prog 288 2 2 := fun a w => by kernel_rfl
theorem zv280 : ∀ w, (zeroValue 280).run Tryz.prog w = .ok (Value.agg #[Value.pointer none, Value.slice none 0 0]) w := fun w => by kernel_rfl
theorem bu280 : Bu Tryz.prog 280 [Value.pointer none, Value.slice none 0 0] (fun (i : Nat) => ([(0, 1), (1, 1)] : List (Nat × Nat))[i]?) := bu_of Tryz.underlying280 zv280 rfl (fun w => by kernel_rfl)
theorem fo280_1 : Fo Tryz.prog 280 1 1 := fun a w => by kernel_rfl
theorem fo280_0 : Fo Tryz.prog 280 0 0 := fun a w => by kernel_rfl
theorem sc277 : Sc Tryz.prog 277 := fun w => ⟨by kernel_rfl, by kernel_rfl⟩
theorem el9 : El Tryz.prog 9 1 16 := ⟨_, _, rfl, rfl, by kernel_rfl, by kernel_rfl, by kernel_rfl⟩
theorem zv31 : ∀ w, (zeroValue 31).run Tryz.prog w = .ok (Value.slice none 0 0) w := fun w => by kernel_rfl
theorem ze31 : Ze Tryz.prog 31 [Value.slice none 0 0] := ⟨_, rfl, zv31⟩
theorem sc31 : Sc Tryz.prog 31 := fun w => ⟨by kernel_rfl, by kernel_rfl⟩
theorem zv45 : ∀ w, (zeroValue 45).run Tryz.prog w = .ok (Value.agg #[Value.int .i64 0, Value.int .u8 0, Value.int .u8 0, Value.int .u8 0, Value.int .u8 0, Value.int .u8 0, Value.int .u8 0, Value.int .u8 0, Value.int .u8 0, Value.int .u8 0, Value.int .u8 0, Value.int .u8 0, Value.int .u8 0, Value.int .u8 0, Value.int .u8 0, Value.int .u8 0, Value.int .u8 0, Value.int .u8 0, Value.int .u8 0, Value.int .u8 0, Value.int .u8 0, Value.int .u8 0, Value.int .u8 0, Value.int .u8 0, Value.int .u8 0, Value.int .u8 0, Value.int .u8 0, Value.int .u8 0, Value.int .u8 0, Value.int .u8 0, Value.int .u8 0, Value.int .u8 0, Value.int .u8 0, S []]) w := fun w => by kernel_rfl
theorem ze45 : Ze Tryz.prog 45 (Value.int .i64 0 :: Value.int .u8 0 :: Value.int .u8 0 :: Value.int .u8 0 :: Value.int .u8 0 :: Value.int .u8 0 :: Value.int .u8 0 :: Value.int .u8 0 :: Value.int .u8 0 :: Value.int .u8 0 :: Value.int .u8 0 :: Value.int .u8 0 :: Value.int .u8 0 :: Value.int .u8 0 :: Value.int .u8 0 :: Value.int .u8 0 :: Value.int .u8 0 :: Value.int .u8 0 :: Value.int .u8 0 :: Value.int .u8 0 :: Value.int .u8 0 :: Value.int .u8 0 :: Value.int .u8 0 :: Value.int .u8 0 :: Value.int .u8 0 :: Value.int .u8 0 :: Value.int .u8 0 :: Value.int .u8 0 :: Value.int .u8 0 :: Value.int .u8 0 :: Value.int .u8 0 :: Value.int .u8 0 :: Value.int .u8 0 :: S [] :: []) := ⟨_, rfl, zv45⟩
theorem bu45 : Bu Tryz.prog 45 (Value.int .i64 0 :: Value.int .u8 0 :: Value.int .u8 0 :: Value.int .u8 0 :: Value.int .u8 0 :: Value.int .u8 0 :: Value.int .u8 0 :: Value.int .u8 0 :: Value.int .u8 0 :: Value.int .u8 0 :: Value.int .u8 0 :: Value.int .u8 0 :: Value.int .u8 0 :: Value.int .u8 0 :: Value.int .u8 0 :: Value.int .u8 0 :: Value.int .u8 0 :: Value.int .u8 0 :: Value.int .u8 0 :: Value.int .u8 0 :: Value.int .u8 0 :: Value.int .u8 0 :: Value.int .u8 0 :: Value.int .u8 0 :: Value.int .u8 0 :: Value.int .u8 0 :: Value.int .u8 0 :: Value.int .u8 0 :: Value.int .u8 0 :: Value.int .u8 0 :: Value.int .u8 0 :: Value.int .u8 0 :: Value.int .u8 0 :: S [] :: []) (fun (i : Nat) => ([(0, 1), (1, 32), (33, 1)] : List (Nat × Nat))[i]?) := bu_of Tryz.underlying45 zv45 rfl (fun w => by kernel_rfl)
theorem ag45 : Ag Tryz.prog 45 34 := fun w => ⟨by kernel_rfl, by kernel_rfl⟩
theorem ag51 : Ag Tryz.prog 51 33 := fun w => ⟨by kernel_rfl, by kernel_rfl⟩
theorem fo49_0 : Fo Tryz.prog 49 0 0 := fun a w => by kernel_rfl
theorem fo49_1 : Fo Tryz.prog 49 1 1 := fun a w => by kernel_rfl
theorem sc47 : Sc Tryz.prog 47 := fun w => ⟨by kernel_rfl, by kernel_rfl⟩
theorem sz51 : Sz Tryz.prog 51 33 := fun w => by kernel_rfl
theorem zv51 : ∀ w, (zeroValue 51).run Tryz.prog w = .ok (Value.agg #[Value.int .u8 0, Value.int .u8 0, Value.int .u8 0, Value.int .u8 0, Value.int .u8 0, Value.int .u8 0, Value.int .u8 0, Value.int .u8 0, Value.int .u8 0, Value.int .u8 0, Value.int .u8 0, Value.int .u8 0, Value.int .u8 0, Value.int .u8 0, Value.int .u8 0, Value.int .u8 0, Value.int .u8 0, Value.int .u8 0, Value.int .u8 0, Value.int .u8 0, Value.int .u8 0, Value.int .u8 0, Value.int .u8 0, Value.int .u8 0, Value.int .u8 0, Value.int .u8 0, Value.int .u8 0, Value.int .u8 0, Value.int .u8 0, Value.int .u8 0, Value.int .u8 0, Value.int .u8 0, Value.int .i64 0]) w := fun w => by kernel_rfl
theorem ze51 : Ze Tryz.prog 51 (Value.int .u8 0 :: Value.int .u8 0 :: Value.int .u8 0 :: Value.int .u8 0 :: Value.int .u8 0 :: Value.int .u8 0 :: Value.int .u8 0 :: Value.int .u8 0 :: Value.int .u8 0 :: Value.int .u8 0 :: Value.int .u8 0 :: Value.int .u8 0 :: Value.int .u8 0 :: Value.int .u8 0 :: Value.int .u8 0 :: Value.int .u8 0 :: Value.int .u8 0 :: Value.int .u8 0 :: Value.int .u8 0 :: Value.int .u8 0 :: Value.int .u8 0 :: Value.int .u8 0 :: Value.int .u8 0 :: Value.int .u8 0 :: Value.int .u8 0 :: Value.int .u8 0 :: Value.int .u8 0 :: Value.int .u8 0 :: Value.int .u8 0 :: Value.int .u8 0 :: Value.int .u8 0 :: Value.int .u8 0 :: Value.int .i64 0 :: []) := ⟨_, rfl, zv51⟩
theorem fo51_0 : Fo Tryz.prog 51 0 0 := fun a w => by kernel_rfl
theorem fo51_1 : Fo Tryz.prog 51 1 32 := fun a w => by kernel_rfl
theorem el51 : El Tryz.prog 51 33 40 := ⟨_, _, rfl, rfl, by kernel_rfl, by kernel_rfl, by kernel_rfl⟩
theorem el45 : El Tryz.prog 45 34 56 := ⟨_, _, rfl, rfl, by kernel_rfl, by kernel_rfl, by kernel_rfl⟩
theorem zv47 : ∀ w, (zeroValue 47).run Tryz.prog w = .ok (Value.slice none 0 0) w := fun w => by kernel_rfl
theorem ze47 : Ze Tryz.prog 47 [Value.slice none 0 0] := ⟨_, rfl, zv47⟩
theorem zv24 : ∀ w, (zeroValue 24).run Tryz.prog w = .ok (Value.slice none 0 0) w := fun w => by kernel_rfl
theorem ze24 : Ze Tryz.prog 24 [Value.slice none 0 0] := ⟨_, rfl, zv24⟩
theorem zv49 : ∀ w, (zeroValue 49).run Tryz.prog w = .ok (Value.agg #[Value.int .i64 0, Value.slice none 0 0]) w := fun w => by kernel_rfl
theorem bu49 : Bu Tryz.prog 49 [Value.int .i64 0, Value.slice none 0 0] (fun (i : Nat) => ([(0, 1), (1, 1)] : List (Nat × Nat))[i]?) := bu_of Tryz.underlying49 zv49 rfl (fun w => by kernel_rfl)
theorem ze49 : Ze Tryz.prog 49 [Value.int .i64 0, Value.slice none 0 0] := ⟨_, rfl, zv49⟩
theorem ag49 : Ag Tryz.prog 49 2 := fun w => ⟨by kernel_rfl, by kernel_rfl⟩
theorem fo45_1 : Fo Tryz.prog 45 1 1 := fun a w => by kernel_rfl
theorem bu51 : Bu Tryz.prog 51 (Value.int .u8 0 :: Value.int .u8 0 :: Value.int .u8 0 :: Value.int .u8 0 :: Value.int .u8 0 :: Value.int .u8 0 :: Value.int .u8 0 :: Value.int .u8 0 :: Value.int .u8 0 :: Value.int .u8 0 :: Value.int .u8 0 :: Value.int .u8 0 :: Value.int .u8 0 :: Value.int .u8 0 :: Value.int .u8 0 :: Value.int .u8 0 :: Value.int .u8 0 :: Value.int .u8 0 :: Value.int .u8 0 :: Value.int .u8 0 :: Value.int .u8 0 :: Value.int .u8 0 :: Value.int .u8 0 :: Value.int .u8 0 :: Value.int .u8 0 :: Value.int .u8 0 :: Value.int .u8 0 :: Value.int .u8 0 :: Value.int .u8 0 :: Value.int .u8 0 :: Value.int .u8 0 :: Value.int .u8 0 :: Value.int .i64 0 :: []) (fun (i : Nat) => ([(0, 32), (32, 1)] : List (Nat × Nat))[i]?) := bu_of Tryz.underlying51 zv51 rfl (fun w => by kernel_rfl)
theorem bs47 : Bs Tryz.prog 47 51 33 (Value.int .u8 0 :: Value.int .u8 0 :: Value.int .u8 0 :: Value.int .u8 0 :: Value.int .u8 0 :: Value.int .u8 0 :: Value.int .u8 0 :: Value.int .u8 0 :: Value.int .u8 0 :: Value.int .u8 0 :: Value.int .u8 0 :: Value.int .u8 0 :: Value.int .u8 0 :: Value.int .u8 0 :: Value.int .u8 0 :: Value.int .u8 0 :: Value.int .u8 0 :: Value.int .u8 0 :: Value.int .u8 0 :: Value.int .u8 0 :: Value.int .u8 0 :: Value.int .u8 0 :: Value.int .u8 0 :: Value.int .u8 0 :: Value.int .u8 0 :: Value.int .u8 0 :: Value.int .u8 0 :: Value.int .u8 0 :: Value.int .u8 0 :: Value.int .u8 0 :: Value.int .u8 0 :: Value.int .u8 0 :: Value.int .i64 0 :: []) := bs_of Tryz.underlying47 (fun w => by kernel_rfl) zv51 rfl rfl (by decide)
theorem sc24 : Sc Tryz.prog 24 := fun w => ⟨by kernel_rfl, by kernel_rfl⟩
theorem bs24 : Bs Tryz.prog 24 45 34 (Value.int .i64 0 :: Value.int .u8 0 :: Value.int .u8 0 :: Value.int .u8 0 :: Value.int .u8 0 :: Value.int .u8 0 :: Value.int .u8 0 :: Value.int .u8 0 :: Value.int .u8 0 :: Value.int .u8 0 :: Value.int .u8 0 :: Value.int .u8 0 :: Value.int .u8 0 :: Value.int .u8 0 :: Value.int .u8 0 :: Value.int .u8 0 :: Value.int .u8 0 :: Value.int .u8 0 :: Value.int .u8 0 :: Value.int .u8 0 :: Value.int .u8 0 :: Value.int .u8 0 :: Value.int .u8 0 :: Value.int .u8 0 :: Value.int .u8 0 :: Value.int .u8 0 :: Value.int .u8 0 :: Value.int .u8 0 :: Value.int .u8 0 :: Value.int .u8 0 :: Value.int .u8 0 :: Value.int .u8 0 :: Value.int .u8 0 :: S [] :: []) := bs_of Tryz.underlying24 (fun w => by kernel_rfl) zv45 rfl rfl (by decide)
theorem bs30 : Bs Tryz.prog 30 38 32 (Value.int .u8 0 :: Value.int .u8 0 :: Value.int .u8 0 :: Value.int .u8 0 :: Value.int .u8 0 :: Value.int .u8 0 :: Value.int .u8 0 :: Value.int .u8 0 :: Value.int .u8 0 :: Value.int .u8 0 :: Value.int .u8 0 :: Value.int .u8 0 :: Value.int .u8 0 :: Value.int .u8 0 :: Value.int .u8 0 :: Value.int .u8 0 :: Value.int .u8 0 :: Value.int .u8 0 :: Value.int .u8 0 :: Value.int .u8 0 :: Value.int .u8 0 :: Value.int .u8 0 :: Value.int .u8 0 :: Value.int .u8 0 :: Value.int .u8 0 :: Value.int .u8 0 :: Value.int .u8 0 :: Value.int .u8 0 :: Value.int .u8 0 :: Value.int .u8 0 :: Value.int .u8 0 :: Value.int .u8 0 :: []) := bs_of Tryz.underlying30 (fun w => by kernel_rfl) zv38 rfl rfl (by decide)
theorem el38 : El Tryz.prog 38 32 32 := ⟨_, _, rfl, rfl, by kernel_rfl, by kernel_rfl, by kernel_rfl⟩
theorem fo54_0 : Fo Tryz.prog 54 0 0 := fun a w => by kernel_rfl
theorem fo54_1 : Fo Tryz.prog 54 1 33 := fun a w => by kernel_rfl
theorem sc30 : Sc Tryz.prog 30 := fun w => ⟨by kernel_rfl, by kernel_rfl⟩
theorem ag54 : Ag Tryz.prog 54 34 := fun w => ⟨by kernel_rfl, by kernel_rfl⟩
theorem zv54 : ∀ w, (zeroValue 54).run Tryz.prog w = .ok (Value.agg #[Value.int .u8 0, Value.int .u8 0, Value.int .u8 0, Value.int .u8 0, Value.int .u8 0, Value.int .u8 0, Value.int .u8 0, Value.int .u8 0, Value.int .u8 0, Value.int .u8 0, Value.int .u8 0, Value.int .u8 0, Value.int .u8 0, Value.int .u8 0, Value.int .u8 0, Value.int .u8 0, Value.int .u8 0, Value.int .u8 0, Value.int .u8 0, Value.int .u8 0, Value.int .u8 0, Value.int .u8 0, Value.int .u8 0, Value.int .u8 0, Value.int .u8 0, Value.int .u8 0, Value.int .u8 0, Value.int .u8 0, Value.int .u8 0, Value.int .u8 0, Value.int .u8 0, Value.int .u8 0, Value.int .i64 0, Value.slice none 0 0]) w := fun w => by kernel_rfl
theorem ze54 : Ze Tryz.prog 54 (Value.int .u8 0 :: Value.int .u8 0 :: Value.int .u8 0 :: Value.int .u8 0 :: Value.int .u8 0 :: Value.int .u8 0 :: Value.int .u8 0 :: Value.int .u8 0 :: Value.int .u8 0 :: Value.int .u8 0 :: Value.int .u8 0 :: Value.int .u8 0 :: Value.int .u8 0 :: Value.int .u8 0 :: Value.int .u8 0 :: Value.int .u8 0 :: Value.int .u8 0 :: Value.int .u8 0 :: Value.int .u8 0 :: Value.int .u8 0 :: Value.int .u8 0 :: Value.int .u8 0 :: Value.int .u8 0 :: Value.int .u8 0 :: Value.int .u8 0 :: Value.int .u8 0 :: Value.int .u8 0 :: Value.int .u8 0 :: Value.int .u8 0 :: Value.int .u8 0 :: Value.int .u8 0 :: Value.int .u8 0 :: Value.int .i64 0 :: Value.slice none 0 0 :: []) := ⟨_, rfl, zv54⟩
theorem bu54 : Bu Tryz.prog 54 (Value.int .u8 0 :: Value.int .u8 0 :: Value.int .u8 0 :: Value.int .u8 0 :: Value.int .u8 0 :: Value.int .u8 0 :: Value.int .u8 0 :: Value.int .u8 0 :: Value.int .u8 0 :: Value.int .u8 0 :: Value.int .u8 0 :: Value.int .u8 0 :: Value.int .u8 0 :: Value.int .u8 0 :: Value.int .u8 0 :: Value.int .u8 0 :: Value.int .u8 0 :: Value.int .u8 0 :: Value.int .u8 0 :: Value.int .u8 0 :: Value.int .u8 0 :: Value.int .u8 0 :: Value.int .u8 0 :: Value.int .u8 0 :: Value.int .u8 0 :: Value.int .u8 0 :: Value.int .u8 0 :: Value.int .u8 0 :: Value.int .u8 0 :: Value.int .u8 0 :: Value.int .u8 0 :: Value.int .u8 0 :: Value.int .i64 0 :: Value.slice none 0 0 :: []) (fun (i : Nat) => ([(0, 33), (33, 1)] : List (Nat × Nat))[i]?) := bu_of Tryz.underlying54 zv54 rfl (fun w => by kernel_rfl)
theorem fo107_0 : Fo Tryz.prog 107 0 0 := fun a w => by kernel_rfl
theorem fo105_1 : Fo Tryz.prog 105 1 1 := fun a w => by kernel_rfl
theorem fo107_1 : Fo Tryz.prog 107 1 2 := fun a w => by kernel_rfl
theorem zv107 : ∀ w, (zeroValue 107).run Tryz.prog w = .ok (Value.agg #[S [], Value.int .i64 0, Value.slice none 0 0]) w := fun w => by kernel_rfl
theorem ze107 : Ze Tryz.prog 107 [S [], Value.int .i64 0, Value.slice none 0 0] := ⟨_, rfl, zv107⟩
theorem bu107 : Bu Tryz.prog 107 [S [], Value.int .i64 0, Value.slice none 0 0] (fun (i : Nat) => ([(0, 2), (2, 1)] : List (Nat × Nat))[i]?) := bu_of Tryz.underlying107 zv107 rfl (fun w => by kernel_rfl)
theorem ag107 : Ag Tryz.prog 107 3 := fun w => ⟨by kernel_rfl, by kernel_rfl⟩
theorem zv105 : ∀ w, (zeroValue 105).run Tryz.prog w = .ok (Value.agg #[S [], Value.int .i64 0]) w := fun w => by kernel_rfl
theorem bu105 : Bu Tryz.prog 105 [S [], Value.int .i64 0] (fun (i : Nat) => ([(0, 1), (1, 1)] : List (Nat × Nat))[i]?) := bu_of Tryz.underlying105 zv105 rfl (fun w => by kernel_rfl)
theorem ag105 : Ag Tryz.prog 105 2 := fun w => ⟨by kernel_rfl, by kernel_rfl⟩
theorem fo121_0 : Fo Tryz.prog 121 0 0 := fun a w => by kernel_rfl
theorem fo121_1 : Fo Tryz.prog 121 1 1 := fun a w => by kernel_rfl
theorem sc119 : Sc Tryz.prog 119 := fun w => ⟨by kernel_rfl, by kernel_rfl⟩
theorem sz105 : Sz Tryz.prog 105 2 := fun w => by kernel_rfl
theorem ze105 : Ze Tryz.prog 105 [S [], Value.int .i64 0] := ⟨_, rfl, zv105⟩
theorem el105 : El Tryz.prog 105 2 24 := ⟨_, _, rfl, rfl, by kernel_rfl, by kernel_rfl, by kernel_rfl⟩
theorem zv121 : ∀ w, (zeroValue 121).run Tryz.prog w = .ok (Value.agg #[Value.int .i64 0, Value.slice none 0 0]) w := fun w => by kernel_rfl
theorem ze121 : Ze Tryz.prog 121 [Value.int .i64 0, Value.slice none 0 0] := ⟨_, rfl, zv121⟩
theorem bu121 : Bu Tryz.prog 121 [Value.int .i64 0, Value.slice none 0 0] (fun (i : Nat) => ([(0, 1), (1, 1)] : List (Nat × Nat))[i]?) := bu_of Tryz.underlying121 zv121 rfl (fun w => by kernel_rfl)
theorem ag121 : Ag Tryz.prog 121 2 := fun w => ⟨by kernel_rfl, by kernel_rfl⟩
theorem bs119 : Bs Tryz.prog 119 105 2 [S [], Value.int .i64 0] := bs_of Tryz.underlying119 (fun w => by kernel_rfl) zv105 rfl rfl (by decide)
theorem fo26_0 : Fo Tryz.prog 26 0 0 := fun a w => by kernel_rfl
theorem sz45 : Sz Tryz.prog 45 34 := fun w => by kernel_rfl
theorem fo45_0 : Fo Tryz.prog 45 0 0 := fun a w => by kernel_rfl
theorem fo45_2 : Fo Tryz.prog 45 2 33 := fun a w => by kernel_rfl
theorem ag118 : Ag Tryz.prog 118 3 := fun w => ⟨by kernel_rfl, by kernel_rfl⟩
theorem sz118 : Sz Tryz.prog 118 3 := fun w => by kernel_rfl
theorem zv118 : ∀ w, (zeroValue 118).run Tryz.prog w = .ok (Value.agg #[Value.int .i64 0, S [], S []]) w := fun w => by kernel_rfl
theorem ze118 : Ze Tryz.prog 118 [Value.int .i64 0, S [], S []] := ⟨_, rfl, zv118⟩
theorem fo118_1 : Fo Tryz.prog 118 1 1 := fun a w => by kernel_rfl
theorem fo118_0 : Fo Tryz.prog 118 0 0 := fun a w => by kernel_rfl
theorem fo118_2 : Fo Tryz.prog 118 2 2 := fun a w => by kernel_rfl
theorem bs27 : Bs Tryz.prog 27 118 3 [Value.int .i64 0, S [], S []] := bs_of Tryz.underlying27 (fun w => by kernel_rfl) zv118 rfl rfl (by decide)
theorem bu118 : Bu Tryz.prog 118 [Value.int .i64 0, S [], S []] (fun (i : Nat) => ([(0, 1), (1, 1), (2, 1)] : List (Nat × Nat))[i]?) := bu_of Tryz.underlying118 zv118 rfl (fun w => by kernel_rfl)
theorem el118 : El Tryz.prog 118 3 40 := ⟨_, _, rfl, rfl, by kernel_rfl, by kernel_rfl, by kernel_rfl⟩
theorem zv133 : ∀ w, (zeroValue 133).run Tryz.prog w = .ok (Value.agg #[Value.int .i64 0, S [], Value.slice none 0 0]) w := fun w => by kernel_rfl
theorem bu133 : Bu Tryz.prog 133 [Value.int .i64 0, S [], Value.slice none 0 0] (fun (i : Nat) => ([(0, 1), (1, 1), (2, 1)] : List (Nat × Nat))[i]?) := bu_of Tryz.underlying133 zv133 rfl (fun w => by kernel_rfl)
theorem zv26 : ∀ w, (zeroValue 26).run Tryz.prog w = .ok (Value.agg #[Value.slice none 0 0]) w := fun w => by kernel_rfl
theorem ze26 : Ze Tryz.prog 26 [Value.slice none 0 0] := ⟨_, rfl, zv26⟩
theorem bu26 : Bu Tryz.prog 26 [Value.slice none 0 0] (fun (i : Nat) => ([(0, 1)] : List (Nat × Nat))[i]?) := bu_of Tryz.underlying26 zv26 rfl (fun w => by kernel_rfl)
theorem ag26 : Ag Tryz.prog 26 1 := fun w => ⟨by kernel_rfl, by kernel_rfl⟩
theorem sc64 : Sc Tryz.prog 64 := fun w => ⟨by kernel_rfl, by kernel_rfl⟩
theorem ag115 : Ag Tryz.prog 115 3 := fun w => ⟨by kernel_rfl, by kernel_rfl⟩
theorem el115 : El Tryz.prog 115 3 32 := ⟨_, _, rfl, rfl, by kernel_rfl, by kernel_rfl, by kernel_rfl⟩
theorem zv115 : ∀ w, (zeroValue 115).run Tryz.prog w = .ok (Value.agg #[S [], Value.int .i64 0, Value.int .i64 0]) w := fun w => by kernel_rfl
theorem bu115 : Bu Tryz.prog 115 [S [], Value.int .i64 0, Value.int .i64 0] (fun (i : Nat) => ([(0, 2), (2, 1)] : List (Nat × Nat))[i]?) := bu_of Tryz.underlying115 zv115 rfl (fun w => by kernel_rfl)
theorem bs116 : Bs Tryz.prog 116 115 3 [S [], Value.int .i64 0, Value.int .i64 0] := bs_of Tryz.underlying116 (fun w => by kernel_rfl) zv115 rfl rfl (by decide)
theorem sz115 : Sz Tryz.prog 115 3 := fun w => by kernel_rfl
theorem ze115 : Ze Tryz.prog 115 [S [], Value.int .i64 0, Value.int .i64 0] := ⟨_, rfl, zv115⟩
theorem fo115_0 : Fo Tryz.prog 115 0 0 := fun a w => by kernel_rfl
theorem fo105_0 : Fo Tryz.prog 105 0 0 := fun a w => by kernel_rfl
theorem fo115_1 : Fo Tryz.prog 115 1 2 := fun a w => by kernel_rfl
theorem bua38 : Bu Tryz.prog 38 [Value.int .u8 0, Value.int .u8 0, Value.int .u8 0, Value.int .u8 0, Value.int .u8 0, Value.int .u8 0, Value.int .u8 0, Value.int .u8 0, Value.int .u8 0, Value.int .u8 0, Value.int .u8 0, Value.int .u8 0, Value.int .u8 0, Value.int .u8 0, Value.int .u8 0, Value.int .u8 0, Value.int .u8 0, Value.int .u8 0, Value.int .u8 0, Value.int .u8 0, Value.int .u8 0, Value.int .u8 0, Value.int .u8 0, Value.int .u8 0, Value.int .u8 0, Value.int .u8 0, Value.int .u8 0, Value.int .u8 0, Value.int .u8 0, Value.int .u8 0, Value.int .u8 0, Value.int .u8 0] (fun (i : Nat) => some (i * 1, 1)) := bua_of Tryz.underlying38 zv38 rfl sz5
def z4 := @T.thenN
def z5 := @L.move
def z6 := @T.seq
def z7 := @L.nil
def z8 := @T.region
def z9 := @L.assign
def za := @SubK.nil
def zd := @A.took
def ze := @A.tq
def zf := @L.guardT
def zg := @L.fi
def zh := @L.guardF
def zi := @L.load
def zj := @T.ret
def zm := @T.skip
def zo := @T.cond
def zp := @L.loadA
def zq := @A.backT
def zr := @T.thenX
def zt := @A.bq
def zu := @T.block
def zv := @L.known
def zw := @BP.one
def zx := @T.thenR
def zy := @L.norm
def zz := @L.storeA
def zA := @T.ret1
def zB := @BP.doneE
def zC := @L.call
def zD := @ag38
def zE := @T.norm3
def zF := @T.toJoin
def zG := @Tryz.underlying30
def zH := @L.addN
def zI := @Spec.in0
def zJ := @gd_get
def zK := @T.blkN
def zL := @L.alloc
def zM := @sz38
def zN := @T.exit
def zO := @T.blkX
def zQ := @L.ltI
def zR := @T.back
def zS := @map_get
def zT := @L.idxG
def zU := @T.eqv
def zV := @L.extract
def zW := @L.callF
def zX := @iC_len
def zY := @T.loop
def zZ := @L.buildSlice
def y1 := @L.lenSl
def y2 := @T.blkR
def y3 := @A.done
def y4 := @A.take
def y5 := @L.subN
def y6 := @L.pickT
def y7 := @ag165
def y8 := @L.store
def y9 := @L.pickF
def ye := @L.build
def yf := @T.freeze
def yg := @T.ownEq
def yh := @CellsN.ofOwn
def yi := @L.nilCheck
def yj := @T.cutC
def ym := @BP.agg
def yn := @L.eqI
def yp := @Each.cons
def yq := @L.gtI
def yt := @L.box
def yu := @Tryz.underlying9
def yv := @Tryz.underlying128
def yw := @T.newOwn
def yx := @L.nilQ
def yy := @T.regionA
def yz := @L.append1
def yA := @T.ownRsl
def yB := @T.regionQ
def yC := @T.rslLen2
def yD := @T.retAT
def yE := @Tryz.underlying5
def yF := @A.back
def yG := @Tryz.underlying31
def yH := @L.idx
def yI := @L.toOwn
def yJ := @L.neI
def yK := @L.part
def yL := @L.idxA1
def yM := @sz208
def yN := @L.storeOA
def yO := @sc128
def yP := @Tryz.underlying83
def yQ := @sc208
def yR := @T.condF
def yS := @L.geI
def yT := @exs.in
def yU := @Tryz.underlying3
def yV := @A.branch
def yW := @Each.nil
def yX := @Tryz.underlying47
def yY := @L.ownRsl
def yZ := @L.notB
def x6 := @T.retN
def x7 := @T.ownLen
def x8 := @T.ret2
def x9 := @CellsN.ofD
def xa := @A.nilCheck
def xb := @fo212_1
def xc := @L.appendR
def xd := @T.retA
def xe := @Tryz.underlying210
def xf := @L.lenStr
def xg := @A.nilCheckP
def xh := @Tryz.underlying24
def xi := @L.callVF
def xj := @Tryz.underlying38
def xk := @Tryz.underlying76
def xl := @Tryz.underlying246
def xm := @Tryz.underlying176
def xn := @L.guardU
def xo := @Tryz.underlying131
def xp := @Tryz.underlying119
def xq := @Tryz.underlying27
def xt := @Tryz.underlying116
end Cv
