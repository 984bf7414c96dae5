/-
  Facts about the types of the program, and about its fields.
-/
import Derived.Test.YtncgoodlhmpfcaaGreatCvLg
import Derived.Test.YtncgoodlhmpfcaaGreatProg
set_option linter.all false
set_option maxRecDepth 10000
namespace Cv
open Go Go.Proofs
abbrev j8 : Value := .int .u8 0
theorem fo44_0 : Fo Tryz.prog 44 0 0 := fun a w => by kernel_rfl
theorem sc3 : Sc Tryz.prog 3 := fun w => ⟨by kernel_rfl, by kernel_rfl⟩
theorem fo44_2 : Fo Tryz.prog 44 2 2 := fun a w => by kernel_rfl
theorem sc42 : Sc Tryz.prog 42 := fun w => ⟨by kernel_rfl, by kernel_rfl⟩
theorem fo44_1 : Fo Tryz.prog 44 1 1 := fun a w => by kernel_rfl
theorem sc9 : Sc Tryz.prog 9 := fun w => ⟨by kernel_rfl, by kernel_rfl⟩
theorem sz99 : Sz Tryz.prog 99 4 := fun w => by kernel_rfl
theorem ag99 : Ag Tryz.prog 99 4 := fun w => ⟨by kernel_rfl, by kernel_rfl⟩
theorem zv99 : ∀ w, (zeroValue 99).run Tryz.prog w = .ok (Value.agg #[S [], Value.int .i64 0, S [], Value.slice none 0 0]) w := fun w => by kernel_rfl
theorem ze99 : Ze Tryz.prog 99 [S [], Value.int .i64 0, S [], Value.slice none 0 0] := ⟨_, rfl, zv99⟩
theorem fo99_0 : Fo Tryz.prog 99 0 0 := fun a w => by kernel_rfl
theorem fo99_1 : Fo Tryz.prog 99 1 1 := fun a w => by kernel_rfl
theorem ag44 : Ag Tryz.prog 44 3 := fun w => ⟨by kernel_rfl, by kernel_rfl⟩
theorem bs42 : Bs Tryz.prog 42 99 4 [S [], Value.int .i64 0, S [], Value.slice none 0 0] := bs_of Tryz.underlying42 (fun w => by kernel_rfl) zv99 rfl rfl (by decide)
theorem el99 : El Tryz.prog 99 4 64 := ⟨_, _, rfl, rfl, by kernel_rfl, by kernel_rfl, by kernel_rfl⟩
theorem zv44 : ∀ w, (zeroValue 44).run Tryz.prog w = .ok (Value.agg #[.int .i64 0, S [], Value.slice none 0 0]) w := fun w => by kernel_rfl
theorem ze44 : Ze Tryz.prog 44 [Value.int .i64 0, S [], Value.slice none 0 0] := ⟨_, rfl, zv44⟩
theorem bu44 : Bu Tryz.prog 44 [Value.int .i64 0, S [], Value.slice none 0 0] (fun (i : Nat) => ([(0, 1), (1, 1), (2, 1)] : List (Nat × Nat))[i]?) := bu_of Tryz.underlying44 zv44 rfl (fun w => by kernel_rfl)
@[reducible] def e3 : Int → List Value | a => [.int .i64 a]
def g3 : Int → Prop | a => (-9223372036854775808 ≤ a ∧ a ≤ 9223372036854775807)
theorem sz3 : Sz Tryz.prog 3 1 := fun w => by kernel_rfl
theorem zv3 : ∀ w, (zeroValue 3).run Tryz.prog w = .ok (Value.int .i64 0) w := fun w => by kernel_rfl
theorem bs221 : Bs Tryz.prog 221 3 1 [Value.int .i64 0] := bs_of Tryz.underlying221 (fun w => by kernel_rfl) zv3 rfl rfl (by decide)
theorem el5 : El Tryz.prog 5 1 1 := ⟨_, _, rfl, rfl, by kernel_rfl, by kernel_rfl, by kernel_rfl⟩
theorem zv5 : ∀ w, (zeroValue 5).run Tryz.prog w = .ok (j8) w := fun w => by kernel_rfl
theorem bs171 : Bs Tryz.prog 171 5 1 [j8] := bs_of Tryz.underlying171 (fun w => by kernel_rfl) zv5 rfl rfl (by decide)
theorem fo197_0 : Fo Tryz.prog 197 0 0 := fun a w => by kernel_rfl
theorem sc195 : Sc Tryz.prog 195 := fun w => ⟨by kernel_rfl, by kernel_rfl⟩
theorem fo197_1 : Fo Tryz.prog 197 1 1 := fun a w => by kernel_rfl
theorem sc171 : Sc Tryz.prog 171 := fun w => ⟨by kernel_rfl, by kernel_rfl⟩
theorem zv197 : ∀ w, (zeroValue 197).run Tryz.prog w = .ok (Value.agg #[Value.pointer none, Value.slice none 0 0]) w := fun w => by kernel_rfl
theorem ze197 : Ze Tryz.prog 197 [Value.pointer none, Value.slice none 0 0] := ⟨_, rfl, zv197⟩
theorem zv292 : ∀ w, (zeroValue 292).run Tryz.prog w = .ok (Value.agg #[S [], Value.int .i64 0]) w := fun w => by kernel_rfl
theorem bu292 : Bu Tryz.prog 292 [S [], Value.int .i64 0] (fun (i : Nat) => ([(0, 1), (1, 1)] : List (Nat × Nat))[i]?) := bu_of Tryz.underlying292 zv292 rfl (fun w => by kernel_rfl)
theorem fo292_1 : Fo Tryz.prog 292 1 1 := fun a w => by kernel_rfl
theorem sc39 : Sc Tryz.prog 39 := fun w => ⟨by kernel_rfl, by kernel_rfl⟩
theorem fo292_0 : Fo Tryz.prog 292 0 0 := fun a w => by kernel_rfl
theorem sz5 : Sz Tryz.prog 5 1 := fun w => by kernel_rfl
theorem sc5 : Sc Tryz.prog 5 := fun w => ⟨by kernel_rfl, by kernel_rfl⟩
theorem fo305_0 : Fo Tryz.prog 305 0 0 := fun a w => by kernel_rfl
theorem sc244 : Sc Tryz.prog 244 := fun w => ⟨by kernel_rfl, by kernel_rfl⟩
theorem fo305_1 : Fo Tryz.prog 305 1 1 := fun a w => by kernel_rfl
theorem bu99 : Bu Tryz.prog 99 [S [], Value.int .i64 0, S [], Value.slice none 0 0] (fun (i : Nat) => ([(0, 1), (1, 3)] : List (Nat × Nat))[i]?) := bu_of Tryz.underlying99 zv99 rfl (fun w => by kernel_rfl)
theorem zv305 : ∀ w, (zeroValue 305).run Tryz.prog w = .ok (Value.agg #[Value.pointer none, Value.int .i64 0]) w := fun w => by kernel_rfl
theorem bu305 : Bu Tryz.prog 305 [Value.pointer none, Value.int .i64 0] (fun (i : Nat) => ([(0, 1), (1, 1)] : List (Nat × Nat))[i]?) := bu_of Tryz.underlying305 zv305 rfl (fun w => by kernel_rfl)
theorem zv316 : ∀ w, (zeroValue 316).run Tryz.prog w = .ok (Value.agg #[.int .u32 0, .int .u32 0, .int .u32 0, .int .u32 0, .int .u32 0, .int .u32 0, .int .u32 0, .int .u32 0, .int .u32 0, .int .u32 0, .int .u32 0, .int .u32 0, .int .u32 0, .int .u32 0, .int .u32 0, .int .u32 0, .int .u32 0, .int .u32 0, .int .u32 0, .int .u32 0, .int .u32 0, .int .u32 0, .int .u32 0, .int .u32 0, .int .u32 0, .int .u32 0, .int .u32 0, .int .u32 0, .int .u32 0, .int .u32 0, .int .u32 0, .int .u32 0, .int .u32 0, .int .u32 0, .int .u32 0, .int .u32 0, .int .u32 0, .int .u32 0, .int .u32 0, .int .u32 0, .int .u32 0, .int .u32 0, .int .u32 0, .int .u32 0, .int .u32 0, .int .u32 0, .int .u32 0, .int .u32 0, .int .u32 0, .int .u32 0, .int .u32 0, .int .u32 0, .int .u32 0, .int .u32 0, .int .u32 0, .int .u32 0, .int .u32 0, .int .u32 0, .int .u32 0, .int .u32 0, .int .u32 0, .int .u32 0, .int .u32 0, .int .u32 0]) w := fun w => by kernel_rfl
theorem ze316 : Ze Tryz.prog 316 ((List.replicate 64 (0 : BitVec 32)).map W) := ⟨_, rfl, zv316⟩
theorem sz240 : Sz Tryz.prog 240 1 := fun w => by kernel_rfl
theorem bua316 : Bu Tryz.prog 316 [Value.int .u32 0, .int .u32 0, .int .u32 0, .int .u32 0, .int .u32 0, .int .u32 0, .int .u32 0, .int .u32 0, .int .u32 0, .int .u32 0, .int .u32 0, .int .u32 0, .int .u32 0, .int .u32 0, .int .u32 0, .int .u32 0, .int .u32 0, .int .u32 0, .int .u32 0, .int .u32 0, .int .u32 0, .int .u32 0, .int .u32 0, .int .u32 0, .int .u32 0, .int .u32 0, .int .u32 0, .int .u32 0, .int .u32 0, .int .u32 0, .int .u32 0, .int .u32 0, .int .u32 0, .int .u32 0, .int .u32 0, .int .u32 0, .int .u32 0, .int .u32 0, .int .u32 0, .int .u32 0, .int .u32 0, .int .u32 0, .int .u32 0, .int .u32 0, .int .u32 0, .int .u32 0, .int .u32 0, .int .u32 0, .int .u32 0, .int .u32 0, .int .u32 0, .int .u32 0, .int .u32 0, .int .u32 0, .int .u32 0, .int .u32 0, .int .u32 0, .int .u32 0, .int .u32 0, .int .u32 0, .int .u32 0, .int .u32 0, .int .u32 0, .int .u32 0] (fun (i : Nat) => some (i * 1, 1)) := bua_of Tryz.underlying316 zv316 rfl sz240
theorem ag316 : Ag Tryz.prog 316 64 := fun w => ⟨by kernel_rfl, by kernel_rfl⟩
theorem sc240 : Sc Tryz.prog 240 := fun w => ⟨by kernel_rfl, by kernel_rfl⟩
theorem fo276_0 : Fo Tryz.prog 276 0 0 := fun a w => by kernel_rfl
theorem ag274 : Ag Tryz.prog 274 8 := fun w => ⟨by kernel_rfl, by kernel_rfl⟩
theorem zv274 : ∀ w, (zeroValue 274).run Tryz.prog w = .ok (Value.agg #[.int .u32 0, .int .u32 0, .int .u32 0, .int .u32 0, .int .u32 0, .int .u32 0, .int .u32 0, .int .u32 0]) w := fun w => by kernel_rfl
theorem ze274 : Ze Tryz.prog 274 ((List.replicate 8 (0 : BitVec 32)).map W) := ⟨_, rfl, zv274⟩
theorem bua274 : Bu Tryz.prog 274 [Value.int .u32 0, .int .u32 0, .int .u32 0, .int .u32 0, .int .u32 0, .int .u32 0, .int .u32 0, .int .u32 0] (fun (i : Nat) => some (i * 1, 1)) := bua_of Tryz.underlying274 zv274 rfl sz240
theorem zv276 : ∀ w, (zeroValue 276).run Tryz.prog w = .ok (Value.agg #[.int .u32 0, .int .u32 0, .int .u32 0, .int .u32 0, .int .u32 0, .int .u32 0, .int .u32 0, .int .u32 0, Value.slice none 0 0, .int .u64 0]) w := fun w => by kernel_rfl
theorem bu276 : Bu Tryz.prog 276 [Value.int .u32 0, .int .u32 0, .int .u32 0, .int .u32 0, .int .u32 0, .int .u32 0, .int .u32 0, .int .u32 0, Value.slice none 0 0, .int .u64 0] (fun (i : Nat) => ([(0, 8), (8, 1), (9, 1)] : List (Nat × Nat))[i]?) := bu_of Tryz.underlying276 zv276 rfl (fun w => by kernel_rfl)
theorem sz9 : Sz Tryz.prog 9 1 := fun w => by kernel_rfl
theorem fo276_2 : Fo Tryz.prog 276 2 9 := fun a w => by kernel_rfl
theorem sc209 : Sc Tryz.prog 209 := fun w => ⟨by kernel_rfl, by kernel_rfl⟩
theorem fo276_1 : Fo Tryz.prog 276 1 8 := fun a w => by kernel_rfl
theorem zv37 : ∀ w, (zeroValue 37).run Tryz.prog w = .ok (Value.agg #[j8, j8, j8, j8, j8, j8, j8, j8, j8, j8, j8, j8, j8, j8, j8, j8, j8, j8, j8, j8, j8, j8, j8, j8, j8, j8, j8, j8, j8, j8, j8, j8]) w := fun w => by kernel_rfl
theorem ze37 : Ze Tryz.prog 37 ((List.replicate 32 (0 : UInt8)).map Y) := ⟨_, rfl, zv37⟩
theorem ag276 : Ag Tryz.prog 276 10 := fun w => ⟨by kernel_rfl, by kernel_rfl⟩
theorem ze276 : Ze Tryz.prog 276 [Value.int .u32 0, .int .u32 0, .int .u32 0, .int .u32 0, .int .u32 0, .int .u32 0, .int .u32 0, .int .u32 0, Value.slice none 0 0, .int .u64 0] := ⟨_, rfl, zv276⟩
theorem ag37 : Ag Tryz.prog 37 32 := fun w => ⟨by kernel_rfl, by kernel_rfl⟩
theorem zv38 : ∀ w, (zeroValue 38).run Tryz.prog w = .ok (Value.agg #[j8, j8, j8, j8, j8, j8, j8, j8, j8, j8, j8, j8, j8, j8, j8, j8, j8, j8, j8, j8, j8, j8, j8, j8, j8, j8, j8, j8, j8, j8, j8, j8]) w := fun w => by kernel_rfl
theorem ze38 : Ze Tryz.prog 38 ((List.replicate 32 (0 : UInt8)).map Y) := ⟨_, rfl, zv38⟩
theorem zv9 : ∀ w, (zeroValue 9).run Tryz.prog w = .ok (S []) w := fun w => by kernel_rfl
theorem bs27 : Bs Tryz.prog 27 9 1 [S []] := bs_of Tryz.underlying27 (fun w => by kernel_rfl) zv9 rfl rfl (by decide)
theorem ag38 : Ag Tryz.prog 38 32 := fun w => ⟨by kernel_rfl, by kernel_rfl⟩
theorem sz38 : Sz Tryz.prog 38 32 := fun w => by kernel_rfl
theorem zv211 : ∀ w, (zeroValue 211).run Tryz.prog w = .ok (Value.agg #[.int .u64 0, .int .u64 0, .int .u64 0, .int .u64 0, .int .u64 0, .int .u64 0, .int .u64 0, .int .u64 0, .int .u64 0, .int .u64 0, .int .u64 0, .int .u64 0, .int .u64 0, .int .u64 0, .int .u64 0, .int .u64 0, .int .u64 0, .int .u64 0, .int .u64 0, .int .u64 0, .int .u64 0, .int .u64 0, .int .u64 0, .int .u64 0, .int .u64 0, .int .u64 0, .int .u64 0, .int .u64 0, .int .u64 0, .int .u64 0, .int .u64 0, .int .u64 0, .int .u64 0, .int .u64 0, .int .u64 0, .int .u64 0, .int .u64 0, .int .u64 0, .int .u64 0, .int .u64 0, .int .u64 0, .int .u64 0, .int .u64 0, .int .u64 0, .int .u64 0, .int .u64 0, .int .u64 0, .int .u64 0, .int .u64 0, .int .u64 0, .int .u64 0, .int .u64 0, .int .u64 0, .int .u64 0, .int .u64 0, .int .u64 0, .int .u64 0, .int .u64 0, .int .u64 0, .int .u64 0, .int .u64 0, .int .u64 0, .int .u64 0, .int .u64 0, .int .u64 0, .int .u64 0, .int .u64 0, .int .u64 0, .int .u64 0, .int .u64 0, .int .u64 0, .int .u64 0, .int .u64 0, .int .u64 0, .int .u64 0, .int .u64 0, .int .u64 0, .int .u64 0, .int .u64 0, .int .u64 0, .int .u64 0, .int .u64 0, .int .u64 0, .int .u64 0, .int .u64 0, .int .u64 0, .int .u64 0, .int .u64 0, .int .u64 0, .int .u64 0, .int .u64 0, .int .u64 0, .int .u64 0, .int .u64 0, .int .u64 0, .int .u64 0, .int .u64 0, .int .u64 0, .int .u64 0, .int .u64 0, .int .u64 0, .int .u64 0, .int .u64 0, .int .u64 0, .int .u64 0, .int .u64 0, .int .u64 0, .int .u64 0, .int .u64 0, .int .u64 0, .int .u64 0, .int .u64 0, .int .u64 0, .int .u64 0, .int .u64 0, .int .u64 0, .int .u64 0, .int .u64 0, .int .u64 0, .int .u64 0, .int .u64 0, .int .u64 0, .int .u64 0, .int .u64 0, .int .u64 0, .int .u64 0, .int .u64 0, .int .u64 0, .int .u64 0, .int .u64 0, .int .u64 0, .int .u64 0, .int .u64 0, .int .u64 0, .int .u64 0, .int .u64 0, .int .u64 0, .int .u64 0, .int .u64 0, .int .u64 0, .int .u64 0, .int .u64 0, .int .u64 0, .int .u64 0, .int .u64 0, .int .u64 0, .int .u64 0, .int .u64 0, .int .u64 0, .int .u64 0, .int .u64 0, .int .u64 0, .int .u64 0, .int .u64 0, .int .u64 0, .int .u64 0, .int .u64 0, .int .u64 0, .int .u64 0, .int .u64 0, .int .u64 0, .int .u64 0, .int .u64 0, .int .u64 0, .int .u64 0, .int .u64 0, .int .u64 0, .int .u64 0, .int .u64 0, .int .u64 0, .int .u64 0, .int .u64 0, .int .u64 0, .int .u64 0, .int .u64 0, .int .u64 0, .int .u64 0, .int .u64 0, .int .u64 0, .int .u64 0, .int .u64 0, .int .u64 0, .int .u64 0, .int .u64 0, .int .u64 0, .int .u64 0, .int .u64 0, .int .u64 0, .int .u64 0, .int .u64 0, .int .u64 0, .int .u64 0, .int .u64 0, .int .u64 0, .int .u64 0, .int .u64 0, .int .u64 0, .int .u64 0, .int .u64 0, .int .u64 0, .int .u64 0, .int .u64 0, .int .u64 0, .int .u64 0, .int .u64 0, .int .u64 0, .int .u64 0, .int .u64 0, .int .u64 0, .int .u64 0, .int .u64 0, .int .u64 0, .int .u64 0, .int .u64 0, .int .u64 0, .int .u64 0, .int .u64 0, .int .u64 0, .int .u64 0, .int .u64 0, .int .u64 0, .int .u64 0, .int .u64 0, .int .u64 0, .int .u64 0, .int .u64 0, .int .u64 0, .int .u64 0, .int .u64 0, .int .u64 0, .int .u64 0, .int .u64 0, .int .u64 0, .int .u64 0, .int .u64 0, .int .u64 0, .int .u64 0, .int .u64 0, .int .u64 0, .int .u64 0, .int .u64 0, .int .u64 0, .int .u64 0, .int .u64 0, .int .u64 0, .int .u64 0, .int .u64 0, .int .u64 0, .int .u64 0, .int .u64 0, .int .u64 0, .int .u64 0, .int .u64 0, .int .u64 0, .int .u64 0, .int .u64 0]) w := fun w => by kernel_rfl
theorem ze211 : Ze Tryz.prog 211 ((List.replicate 256 (0 : Int)).map (Value.int .u64)) := ⟨_, rfl, zv211⟩
theorem sz209 : Sz Tryz.prog 209 1 := fun w => by kernel_rfl
theorem zv328 : ∀ w, (zeroValue 328).run Tryz.prog w = .ok (Value.agg #[Value.pointer none, Value.int .u64 0, .int .i64 0]) w := fun w => by kernel_rfl
theorem bu328 : Bu Tryz.prog 328 [Value.pointer none, Value.int .u64 0, .int .i64 0] (fun (i : Nat) => ([(0, 1), (1, 1), (2, 1)] : List (Nat × Nat))[i]?) := bu_of Tryz.underlying328 zv328 rfl (fun w => by kernel_rfl)
theorem fo328_1 : Fo Tryz.prog 328 1 1 := fun a w => by kernel_rfl
theorem fo328_0 : Fo Tryz.prog 328 0 0 := fun a w => by kernel_rfl
theorem sc139 : Sc Tryz.prog 139 := fun w => ⟨by kernel_rfl, by kernel_rfl⟩
theorem fo328_2 : Fo Tryz.prog 328 2 2 := fun a w => by kernel_rfl
theorem zv313 : ∀ w, (zeroValue 313).run Tryz.prog w = .ok (Value.agg #[Value.pointer none, Value.slice none 0 0]) w := fun w => by kernel_rfl
theorem bu313 : Bu Tryz.prog 313 [Value.pointer none, Value.slice none 0 0] (fun (i : Nat) => ([(0, 1), (1, 1)] : List (Nat × Nat))[i]?) := bu_of Tryz.underlying313 zv313 rfl (fun w => by kernel_rfl)
theorem fo313_1 : Fo Tryz.prog 313 1 1 := fun a w => by kernel_rfl
theorem fo313_0 : Fo Tryz.prog 313 0 0 := fun a w => by kernel_rfl
theorem sc310 : Sc Tryz.prog 310 := fun w => ⟨by kernel_rfl, by kernel_rfl⟩
theorem el9 : El Tryz.prog 9 1 16 := ⟨_, _, rfl, rfl, by kernel_rfl, by kernel_rfl, by kernel_rfl⟩
theorem zv27 : ∀ w, (zeroValue 27).run Tryz.prog w = .ok (Value.slice none 0 0) w := fun w => by kernel_rfl
theorem ze27 : Ze Tryz.prog 27 [Value.slice none 0 0] := ⟨_, rfl, zv27⟩
theorem sc27 : Sc Tryz.prog 27 := fun w => ⟨by kernel_rfl, by kernel_rfl⟩
theorem zv88 : ∀ w, (zeroValue 88).run Tryz.prog w = .ok (Value.agg #[.int .i64 0, j8, j8, j8, j8, j8, j8, j8, j8, j8, j8, j8, j8, j8, j8, j8, j8, j8, j8, j8, j8, j8, j8, j8, j8, j8, j8, j8, j8, j8, j8, j8, j8, S []]) w := fun w => by kernel_rfl
theorem ze88 : Ze Tryz.prog 88 (Value.int .i64 0 :: j8 :: j8 :: j8 :: j8 :: j8 :: j8 :: j8 :: j8 :: j8 :: j8 :: j8 :: j8 :: j8 :: j8 :: j8 :: j8 :: j8 :: j8 :: j8 :: j8 :: j8 :: j8 :: j8 :: j8 :: j8 :: j8 :: j8 :: j8 :: j8 :: j8 :: j8 :: j8 :: S [] :: []) := ⟨_, rfl, zv88⟩
theorem bu88 : Bu Tryz.prog 88 (Value.int .i64 0 :: j8 :: j8 :: j8 :: j8 :: j8 :: j8 :: j8 :: j8 :: j8 :: j8 :: j8 :: j8 :: j8 :: j8 :: j8 :: j8 :: j8 :: j8 :: j8 :: j8 :: j8 :: j8 :: j8 :: j8 :: j8 :: j8 :: j8 :: j8 :: j8 :: j8 :: j8 :: j8 :: S [] :: []) (fun (i : Nat) => ([(0, 1), (1, 32), (33, 1)] : List (Nat × Nat))[i]?) := bu_of Tryz.underlying88 zv88 rfl (fun w => by kernel_rfl)
theorem ag88 : Ag Tryz.prog 88 34 := fun w => ⟨by kernel_rfl, by kernel_rfl⟩
theorem ag73 : Ag Tryz.prog 73 33 := fun w => ⟨by kernel_rfl, by kernel_rfl⟩
theorem fo266_0 : Fo Tryz.prog 266 0 0 := fun a w => by kernel_rfl
theorem fo266_1 : Fo Tryz.prog 266 1 1 := fun a w => by kernel_rfl
theorem sc203 : Sc Tryz.prog 203 := fun w => ⟨by kernel_rfl, by kernel_rfl⟩
theorem sz73 : Sz Tryz.prog 73 33 := fun w => by kernel_rfl
theorem zv73 : ∀ w, (zeroValue 73).run Tryz.prog w = .ok (Value.agg #[j8, j8, j8, j8, j8, j8, j8, j8, j8, j8, j8, j8, j8, j8, j8, j8, j8, j8, j8, j8, j8, j8, j8, j8, j8, j8, j8, j8, j8, j8, j8, j8, Value.int .i64 0]) w := fun w => by kernel_rfl
theorem ze73 : Ze Tryz.prog 73 (j8 :: j8 :: j8 :: j8 :: j8 :: j8 :: j8 :: j8 :: j8 :: j8 :: j8 :: j8 :: j8 :: j8 :: j8 :: j8 :: j8 :: j8 :: j8 :: j8 :: j8 :: j8 :: j8 :: j8 :: j8 :: j8 :: j8 :: j8 :: j8 :: j8 :: j8 :: j8 :: .int .i64 0 :: []) := ⟨_, rfl, zv73⟩
theorem fo73_0 : Fo Tryz.prog 73 0 0 := fun a w => by kernel_rfl
theorem fo73_1 : Fo Tryz.prog 73 1 32 := fun a w => by kernel_rfl
theorem el73 : El Tryz.prog 73 33 40 := ⟨_, _, rfl, rfl, by kernel_rfl, by kernel_rfl, by kernel_rfl⟩
theorem el88 : El Tryz.prog 88 34 56 := ⟨_, _, rfl, rfl, by kernel_rfl, by kernel_rfl, by kernel_rfl⟩
theorem zv203 : ∀ w, (zeroValue 203).run Tryz.prog w = .ok (Value.slice none 0 0) w := fun w => by kernel_rfl
theorem ze203 : Ze Tryz.prog 203 [Value.slice none 0 0] := ⟨_, rfl, zv203⟩
theorem zv76 : ∀ w, (zeroValue 76).run Tryz.prog w = .ok (Value.slice none 0 0) w := fun w => by kernel_rfl
theorem ze76 : Ze Tryz.prog 76 [Value.slice none 0 0] := ⟨_, rfl, zv76⟩
theorem zv266 : ∀ w, (zeroValue 266).run Tryz.prog w = .ok (Value.agg #[.int .i64 0, Value.slice none 0 0]) w := fun w => by kernel_rfl
theorem bu266 : Bu Tryz.prog 266 [Value.int .i64 0, Value.slice none 0 0] (fun (i : Nat) => ([(0, 1), (1, 1)] : List (Nat × Nat))[i]?) := bu_of Tryz.underlying266 zv266 rfl (fun w => by kernel_rfl)
theorem ze266 : Ze Tryz.prog 266 [Value.int .i64 0, Value.slice none 0 0] := ⟨_, rfl, zv266⟩
theorem ag266 : Ag Tryz.prog 266 2 := fun w => ⟨by kernel_rfl, by kernel_rfl⟩
theorem fo88_1 : Fo Tryz.prog 88 1 1 := fun a w => by kernel_rfl
theorem bu73 : Bu Tryz.prog 73 (j8 :: j8 :: j8 :: j8 :: j8 :: j8 :: j8 :: j8 :: j8 :: j8 :: j8 :: j8 :: j8 :: j8 :: j8 :: j8 :: j8 :: j8 :: j8 :: j8 :: j8 :: j8 :: j8 :: j8 :: j8 :: j8 :: j8 :: j8 :: j8 :: j8 :: j8 :: j8 :: .int .i64 0 :: []) (fun (i : Nat) => ([(0, 32), (32, 1)] : List (Nat × Nat))[i]?) := bu_of Tryz.underlying73 zv73 rfl (fun w => by kernel_rfl)
theorem bs203 : Bs Tryz.prog 203 73 33 (j8 :: j8 :: j8 :: j8 :: j8 :: j8 :: j8 :: j8 :: j8 :: j8 :: j8 :: j8 :: j8 :: j8 :: j8 :: j8 :: j8 :: j8 :: j8 :: j8 :: j8 :: j8 :: j8 :: j8 :: j8 :: j8 :: j8 :: j8 :: j8 :: j8 :: j8 :: j8 :: .int .i64 0 :: []) := bs_of Tryz.underlying203 (fun w => by kernel_rfl) zv73 rfl rfl (by decide)
theorem sc76 : Sc Tryz.prog 76 := fun w => ⟨by kernel_rfl, by kernel_rfl⟩
theorem bs76 : Bs Tryz.prog 76 88 34 (Value.int .i64 0 :: j8 :: j8 :: j8 :: j8 :: j8 :: j8 :: j8 :: j8 :: j8 :: j8 :: j8 :: j8 :: j8 :: j8 :: j8 :: j8 :: j8 :: j8 :: j8 :: j8 :: j8 :: j8 :: j8 :: j8 :: j8 :: j8 :: j8 :: j8 :: j8 :: j8 :: j8 :: j8 :: S [] :: []) := bs_of Tryz.underlying76 (fun w => by kernel_rfl) zv88 rfl rfl (by decide)
theorem bs32 : Bs Tryz.prog 32 38 32 (j8 :: j8 :: j8 :: j8 :: j8 :: j8 :: j8 :: j8 :: j8 :: j8 :: j8 :: j8 :: j8 :: j8 :: j8 :: j8 :: j8 :: j8 :: j8 :: j8 :: j8 :: j8 :: j8 :: j8 :: j8 :: j8 :: j8 :: j8 :: j8 :: j8 :: j8 :: j8 :: []) := bs_of Tryz.underlying32 (fun w => by kernel_rfl) zv38 rfl rfl (by decide)
theorem el38 : El Tryz.prog 38 32 32 := ⟨_, _, rfl, rfl, by kernel_rfl, by kernel_rfl, by kernel_rfl⟩
theorem fo75_0 : Fo Tryz.prog 75 0 0 := fun a w => by kernel_rfl
theorem fo75_1 : Fo Tryz.prog 75 1 33 := fun a w => by kernel_rfl
theorem sc32 : Sc Tryz.prog 32 := fun w => ⟨by kernel_rfl, by kernel_rfl⟩
theorem ag75 : Ag Tryz.prog 75 34 := fun w => ⟨by kernel_rfl, by kernel_rfl⟩
theorem zv75 : ∀ w, (zeroValue 75).run Tryz.prog w = .ok (Value.agg #[j8, j8, j8, j8, j8, j8, j8, j8, j8, j8, j8, j8, j8, j8, j8, j8, j8, j8, j8, j8, j8, j8, j8, j8, j8, j8, j8, j8, j8, j8, j8, j8, Value.int .i64 0, Value.slice none 0 0]) w := fun w => by kernel_rfl
theorem ze75 : Ze Tryz.prog 75 (j8 :: j8 :: j8 :: j8 :: j8 :: j8 :: j8 :: j8 :: j8 :: j8 :: j8 :: j8 :: j8 :: j8 :: j8 :: j8 :: j8 :: j8 :: j8 :: j8 :: j8 :: j8 :: j8 :: j8 :: j8 :: j8 :: j8 :: j8 :: j8 :: j8 :: j8 :: j8 :: .int .i64 0 :: Value.slice none 0 0 :: []) := ⟨_, rfl, zv75⟩
theorem bu75 : Bu Tryz.prog 75 (j8 :: j8 :: j8 :: j8 :: j8 :: j8 :: j8 :: j8 :: j8 :: j8 :: j8 :: j8 :: j8 :: j8 :: j8 :: j8 :: j8 :: j8 :: j8 :: j8 :: j8 :: j8 :: j8 :: j8 :: j8 :: j8 :: j8 :: j8 :: j8 :: j8 :: j8 :: j8 :: .int .i64 0 :: Value.slice none 0 0 :: []) (fun (i : Nat) => ([(0, 33), (33, 1)] : List (Nat × Nat))[i]?) := bu_of Tryz.underlying75 zv75 rfl (fun w => by kernel_rfl)
theorem fo101_0 : Fo Tryz.prog 101 0 0 := fun a w => by kernel_rfl
theorem sc4 : Sc Tryz.prog 4 := fun w => ⟨by kernel_rfl, by kernel_rfl⟩
theorem fo101_1 : Fo Tryz.prog 101 1 1 := fun a w => by kernel_rfl
theorem fo51_1 : Fo Tryz.prog 51 1 1 := fun a w => by kernel_rfl
theorem sc48 : Sc Tryz.prog 48 := fun w => ⟨by kernel_rfl, by kernel_rfl⟩
theorem zv179 : ∀ w, (zeroValue 179).run Tryz.prog w = .ok (Value.agg #[j8, j8, j8, j8, j8, j8, j8, j8, j8, j8, j8, j8, j8, j8, j8, j8, j8, j8, j8, j8, j8, j8, j8, j8, j8, j8, j8, j8, j8, j8, j8, j8, j8, j8, j8, j8, j8, j8, j8, j8, j8, j8, j8, j8, j8, j8, j8, j8, j8, j8, j8, j8, j8, j8, j8, j8, j8, j8, j8, j8, j8, j8, j8, j8]) w := fun w => by kernel_rfl
theorem ag179 : Ag Tryz.prog 179 64 := fun w => ⟨by kernel_rfl, by kernel_rfl⟩
theorem ze179 : Ze Tryz.prog 179 ((List.replicate 64 (0 : UInt8)).map Y) := ⟨_, rfl, zv179⟩
theorem fo51_2 : Fo Tryz.prog 51 2 2 := fun a w => by kernel_rfl
theorem sc49 : Sc Tryz.prog 49 := fun w => ⟨by kernel_rfl, by kernel_rfl⟩
theorem sz179 : Sz Tryz.prog 179 64 := fun w => by kernel_rfl
theorem fo51_0 : Fo Tryz.prog 51 0 0 := fun a w => by kernel_rfl
theorem sc47 : Sc Tryz.prog 47 := fun w => ⟨by kernel_rfl, by kernel_rfl⟩
theorem zv101 : ∀ w, (zeroValue 101).run Tryz.prog w = .ok (Value.agg #[Value.bool false, Value.int .i64 0]) w := fun w => by kernel_rfl
theorem bu101 : Bu Tryz.prog 101 [Value.bool false, Value.int .i64 0] (fun (i : Nat) => ([(0, 1), (1, 1)] : List (Nat × Nat))[i]?) := bu_of Tryz.underlying101 zv101 rfl (fun w => by kernel_rfl)
theorem zv51 : ∀ w, (zeroValue 51).run Tryz.prog w = .ok (Value.agg #[Value.pointer none, Value.slice none 0 0, Value.map none]) w := fun w => by kernel_rfl
theorem bu51 : Bu Tryz.prog 51 [Value.pointer none, Value.slice none 0 0, Value.map none] (fun (i : Nat) => ([(0, 1), (1, 1), (2, 1)] : List (Nat × Nat))[i]?) := bu_of Tryz.underlying51 zv51 rfl (fun w => by kernel_rfl)
theorem fo124_0 : Fo Tryz.prog 124 0 0 := fun a w => by kernel_rfl
theorem sc23 : Sc Tryz.prog 23 := fun w => ⟨by kernel_rfl, by kernel_rfl⟩
theorem fo124_1 : Fo Tryz.prog 124 1 1 := fun a w => by kernel_rfl
theorem fo124_2 : Fo Tryz.prog 124 2 2 := fun a w => by kernel_rfl
theorem fo124_3 : Fo Tryz.prog 124 3 3 := fun a w => by kernel_rfl
theorem fo124_4 : Fo Tryz.prog 124 4 4 := fun a w => by kernel_rfl
theorem sc122 : Sc Tryz.prog 122 := fun w => ⟨by kernel_rfl, by kernel_rfl⟩
theorem zv85 : ∀ w, (zeroValue 85).run Tryz.prog w = .ok (Value.agg #[.int .i64 0, S [], Value.int .i64 0]) w := fun w => by kernel_rfl
theorem ze85 : Ze Tryz.prog 85 [Value.int .i64 0, S [], Value.int .i64 0] := ⟨_, rfl, zv85⟩
theorem bu85 : Bu Tryz.prog 85 [Value.int .i64 0, S [], Value.int .i64 0] (fun (i : Nat) => ([(0, 1), (1, 1), (2, 1)] : List (Nat × Nat))[i]?) := bu_of Tryz.underlying85 zv85 rfl (fun w => by kernel_rfl)
theorem ag85 : Ag Tryz.prog 85 3 := fun w => ⟨by kernel_rfl, by kernel_rfl⟩
theorem sz85 : Sz Tryz.prog 85 3 := fun w => by kernel_rfl
theorem fo85_0 : Fo Tryz.prog 85 0 0 := fun a w => by kernel_rfl
theorem fo85_1 : Fo Tryz.prog 85 1 1 := fun a w => by kernel_rfl
theorem bs115 : Bs Tryz.prog 115 85 3 [Value.int .i64 0, S [], Value.int .i64 0] := bs_of Tryz.underlying115 (fun w => by kernel_rfl) zv85 rfl rfl (by decide)
theorem el85 : El Tryz.prog 85 3 32 := ⟨_, _, rfl, rfl, by kernel_rfl, by kernel_rfl, by kernel_rfl⟩
theorem zv124 : ∀ w, (zeroValue 124).run Tryz.prog w = .ok (Value.agg #[Value.pointer none, Value.int .i64 0, S [], Value.int .i64 0, Value.map none]) w := fun w => by kernel_rfl
theorem bu124 : Bu Tryz.prog 124 [Value.pointer none, Value.int .i64 0, S [], Value.int .i64 0, Value.map none] (fun (i : Nat) => ([(0, 1), (1, 1), (2, 1), (3, 1), (4, 1)] : List (Nat × Nat))[i]?) := bu_of Tryz.underlying124 zv124 rfl (fun w => by kernel_rfl)
theorem fo88_0 : Fo Tryz.prog 88 0 0 := fun a w => by kernel_rfl
theorem fo88_2 : Fo Tryz.prog 88 2 33 := fun a w => by kernel_rfl
theorem fo121_1 : Fo Tryz.prog 121 1 1 := fun a w => by kernel_rfl
theorem sc108 : Sc Tryz.prog 108 := fun w => ⟨by kernel_rfl, by kernel_rfl⟩
theorem sz88 : Sz Tryz.prog 88 34 := fun w => by kernel_rfl
theorem fo121_0 : Fo Tryz.prog 121 0 0 := fun a w => by kernel_rfl
theorem sc114 : Sc Tryz.prog 114 := fun w => ⟨by kernel_rfl, by kernel_rfl⟩
theorem fo85_2 : Fo Tryz.prog 85 2 2 := fun a w => by kernel_rfl
theorem zv121 : ∀ w, (zeroValue 121).run Tryz.prog w = .ok (Value.agg #[Value.pointer none, Value.map none]) w := fun w => by kernel_rfl
theorem bu121 : Bu Tryz.prog 121 [Value.pointer none, Value.map none] (fun (i : Nat) => ([(0, 1), (1, 1)] : List (Nat × Nat))[i]?) := bu_of Tryz.underlying121 zv121 rfl (fun w => by kernel_rfl)
theorem zv128 : ∀ w, (zeroValue 128).run Tryz.prog w = .ok (Value.agg #[Value.map none, Value.map none, Value.map none]) w := fun w => by kernel_rfl
theorem bu128 : Bu Tryz.prog 128 [Value.map none, Value.map none, Value.map none] (fun (i : Nat) => ([(0, 1), (1, 1), (2, 1)] : List (Nat × Nat))[i]?) := bu_of Tryz.underlying128 zv128 rfl (fun w => by kernel_rfl)
theorem sc63 : Sc Tryz.prog 63 := fun w => ⟨by kernel_rfl, by kernel_rfl⟩
theorem fo128_0 : Fo Tryz.prog 128 0 0 := fun a w => by kernel_rfl
theorem sc126 : Sc Tryz.prog 126 := fun w => ⟨by kernel_rfl, by kernel_rfl⟩
theorem fo128_1 : Fo Tryz.prog 128 1 1 := fun a w => by kernel_rfl
theorem fo128_2 : Fo Tryz.prog 128 2 2 := fun a w => by kernel_rfl
theorem fo66_1 : Fo Tryz.prog 66 1 1 := fun a w => by kernel_rfl
theorem sc64 : Sc Tryz.prog 64 := fun w => ⟨by kernel_rfl, by kernel_rfl⟩
theorem fo105_0 : Fo Tryz.prog 105 0 0 := fun a w => by kernel_rfl
theorem sc24 : Sc Tryz.prog 24 := fun w => ⟨by kernel_rfl, by kernel_rfl⟩
theorem fo105_1 : Fo Tryz.prog 105 1 1 := fun a w => by kernel_rfl
theorem sc165 : Sc Tryz.prog 165 := fun w => ⟨by kernel_rfl, by kernel_rfl⟩
theorem zv32 : ∀ w, (zeroValue 32).run Tryz.prog w = .ok (Value.slice none 0 0) w := fun w => by kernel_rfl
theorem ze32 : Ze Tryz.prog 32 [Value.slice none 0 0] := ⟨_, rfl, zv32⟩
theorem zv108 : ∀ w, (zeroValue 108).run Tryz.prog w = .ok (Value.map none) w := fun w => by kernel_rfl
theorem ze108 : Ze Tryz.prog 108 [Value.map none] := ⟨_, rfl, zv108⟩
theorem zv165 : ∀ w, (zeroValue 165).run Tryz.prog w = .ok (Value.nilFunc) w := fun w => by kernel_rfl
theorem ze165 : Ze Tryz.prog 165 [Value.nilFunc] := ⟨_, rfl, zv165⟩
theorem fo299_0 : Fo Tryz.prog 299 0 0 := fun a w => by kernel_rfl
theorem sc297 : Sc Tryz.prog 297 := fun w => ⟨by kernel_rfl, by kernel_rfl⟩
theorem zv296 : ∀ w, (zeroValue 296).run Tryz.prog w = .ok (Value.agg #[j8, j8, j8, j8, j8, j8, j8, j8, j8, j8, j8, j8, j8, j8, j8, j8, j8, j8, j8, j8, j8, j8, j8, j8, j8, j8, j8, j8, j8, j8, j8, j8, Value.int .i64 0, .int .i64 0]) w := fun w => by kernel_rfl
theorem bu296 : Bu Tryz.prog 296 (j8 :: j8 :: j8 :: j8 :: j8 :: j8 :: j8 :: j8 :: j8 :: j8 :: j8 :: j8 :: j8 :: j8 :: j8 :: j8 :: j8 :: j8 :: j8 :: j8 :: j8 :: j8 :: j8 :: j8 :: j8 :: j8 :: j8 :: j8 :: j8 :: j8 :: j8 :: j8 :: .int .i64 0 :: .int .i64 0 :: []) (fun (i : Nat) => ([(0, 33), (33, 1)] : List (Nat × Nat))[i]?) := bu_of Tryz.underlying296 zv296 rfl (fun w => by kernel_rfl)
theorem bs297 : Bs Tryz.prog 297 296 34 (j8 :: j8 :: j8 :: j8 :: j8 :: j8 :: j8 :: j8 :: j8 :: j8 :: j8 :: j8 :: j8 :: j8 :: j8 :: j8 :: j8 :: j8 :: j8 :: j8 :: j8 :: j8 :: j8 :: j8 :: j8 :: j8 :: j8 :: j8 :: j8 :: j8 :: j8 :: j8 :: .int .i64 0 :: .int .i64 0 :: []) := bs_of Tryz.underlying297 (fun w => by kernel_rfl) zv296 rfl rfl (by decide)
theorem zv299 : ∀ w, (zeroValue 299).run Tryz.prog w = .ok (Value.agg #[Value.slice none 0 0, Value.pointer none, Value.slice none 0 0, .int .i64 0]) w := fun w => by kernel_rfl
theorem bu299 : Bu Tryz.prog 299 [Value.slice none 0 0, Value.pointer none, Value.slice none 0 0, .int .i64 0] (fun (i : Nat) => ([(0, 1), (1, 2), (3, 1)] : List (Nat × Nat))[i]?) := bu_of Tryz.underlying299 zv299 rfl (fun w => by kernel_rfl)
theorem zv186 : ∀ w, (zeroValue 186).run Tryz.prog w = .ok (Value.agg #[.int .i64 0, j8, j8, j8, j8, j8, j8, j8, j8, j8, j8, j8, j8, j8, j8, j8, j8, j8, j8, j8, j8, j8, j8, j8, j8, j8, j8, j8, j8, j8, j8, j8, j8, Value.int .i64 0]) w := fun w => by kernel_rfl
theorem ze186 : Ze Tryz.prog 186 (Value.int .i64 0 :: j8 :: j8 :: j8 :: j8 :: j8 :: j8 :: j8 :: j8 :: j8 :: j8 :: j8 :: j8 :: j8 :: j8 :: j8 :: j8 :: j8 :: j8 :: j8 :: j8 :: j8 :: j8 :: j8 :: j8 :: j8 :: j8 :: j8 :: j8 :: j8 :: j8 :: j8 :: j8 :: .int .i64 0 :: []) := ⟨_, rfl, zv186⟩
theorem bu186 : Bu Tryz.prog 186 (Value.int .i64 0 :: j8 :: j8 :: j8 :: j8 :: j8 :: j8 :: j8 :: j8 :: j8 :: j8 :: j8 :: j8 :: j8 :: j8 :: j8 :: j8 :: j8 :: j8 :: j8 :: j8 :: j8 :: j8 :: j8 :: j8 :: j8 :: j8 :: j8 :: j8 :: j8 :: j8 :: j8 :: j8 :: .int .i64 0 :: []) (fun (i : Nat) => ([(0, 1), (1, 33)] : List (Nat × Nat))[i]?) := bu_of Tryz.underlying186 zv186 rfl (fun w => by kernel_rfl)
theorem ag186 : Ag Tryz.prog 186 34 := fun w => ⟨by kernel_rfl, by kernel_rfl⟩
theorem ag296 : Ag Tryz.prog 296 34 := fun w => ⟨by kernel_rfl, by kernel_rfl⟩
theorem sz296 : Sz Tryz.prog 296 34 := fun w => by kernel_rfl
theorem ze296 : Ze Tryz.prog 296 (j8 :: j8 :: j8 :: j8 :: j8 :: j8 :: j8 :: j8 :: j8 :: j8 :: j8 :: j8 :: j8 :: j8 :: j8 :: j8 :: j8 :: j8 :: j8 :: j8 :: j8 :: j8 :: j8 :: j8 :: j8 :: j8 :: j8 :: j8 :: j8 :: j8 :: j8 :: j8 :: .int .i64 0 :: .int .i64 0 :: []) := ⟨_, rfl, zv296⟩
theorem fo296_1 : Fo Tryz.prog 296 1 33 := fun a w => by kernel_rfl
theorem fo296_0 : Fo Tryz.prog 296 0 0 := fun a w => by kernel_rfl
theorem fo299_1 : Fo Tryz.prog 299 1 1 := fun a w => by kernel_rfl
theorem el296 : El Tryz.prog 296 34 48 := ⟨_, _, rfl, rfl, by kernel_rfl, by kernel_rfl, by kernel_rfl⟩
theorem fo186_0 : Fo Tryz.prog 186 0 0 := fun a w => by kernel_rfl
theorem fo186_1 : Fo Tryz.prog 186 1 1 := fun a w => by kernel_rfl
theorem fo299_2 : Fo Tryz.prog 299 2 3 := fun a w => by kernel_rfl
theorem fo66_2 : Fo Tryz.prog 66 2 2 := fun a w => by kernel_rfl
theorem fo66_0 : Fo Tryz.prog 66 0 0 := fun a w => by kernel_rfl
theorem bua38 : Bu Tryz.prog 38 [j8, j8, j8, j8, j8, j8, j8, j8, j8, j8, j8, j8, j8, j8, j8, j8, j8, j8, j8, j8, j8, j8, j8, j8, j8, j8, j8, j8, j8, j8, j8, j8] (fun (i : Nat) => some (i * 1, 1)) := bua_of Tryz.underlying38 zv38 rfl sz5
theorem zv66 : ∀ w, (zeroValue 66).run Tryz.prog w = .ok (Value.agg #[Value.pointer none, Value.pointer none, Value.bool false]) w := fun w => by kernel_rfl
theorem bu66 : Bu Tryz.prog 66 [Value.pointer none, Value.pointer none, Value.bool false] (fun (i : Nat) => ([(0, 1), (1, 1), (2, 1)] : List (Nat × Nat))[i]?) := bu_of Tryz.underlying66 zv66 rfl (fun w => by kernel_rfl)
theorem zv105 : ∀ w, (zeroValue 105).run Tryz.prog w = .ok (Value.agg #[Value.pointer none, Value.bool false]) w := fun w => by kernel_rfl
theorem bu105 : Bu Tryz.prog 105 [Value.pointer none, Value.bool false] (fun (i : Nat) => ([(0, 1), (1, 1)] : List (Nat × Nat))[i]?) := bu_of Tryz.underlying105 zv105 rfl (fun w => by kernel_rfl)
theorem zv34 : ∀ w, (zeroValue 34).run Tryz.prog w = .ok (Value.agg #[Value.pointer none, Value.pointer none, Value.slice none 0 0, Value.slice none 0 0, Value.slice none 0 0, Value.slice none 0 0, .int .i64 0, .int .i64 0, Value.slice none 0 0, Value.slice none 0 0]) w := fun w => by kernel_rfl
theorem ze34 : Ze Tryz.prog 34 [Value.pointer none, Value.pointer none, Value.slice none 0 0, Value.slice none 0 0, Value.slice none 0 0, Value.slice none 0 0, .int .i64 0, .int .i64 0, Value.slice none 0 0, Value.slice none 0 0] := ⟨_, rfl, zv34⟩
theorem zv31 : ∀ w, (zeroValue 31).run Tryz.prog w = .ok (Value.agg #[Value.slice none 0 0, Value.slice none 0 0, Value.slice none 0 0, Value.slice none 0 0, .int .i64 0, .int .i64 0]) w := fun w => by kernel_rfl
theorem bu31 : Bu Tryz.prog 31 [Value.slice none 0 0, Value.slice none 0 0, Value.slice none 0 0, Value.slice none 0 0, .int .i64 0, .int .i64 0] (fun (i : Nat) => ([(0, 1), (1, 3), (4, 1), (5, 1)] : List (Nat × Nat))[i]?) := bu_of Tryz.underlying31 zv31 rfl (fun w => by kernel_rfl)
theorem bu34 : Bu Tryz.prog 34 [Value.pointer none, Value.pointer none, Value.slice none 0 0, Value.slice none 0 0, Value.slice none 0 0, Value.slice none 0 0, .int .i64 0, .int .i64 0, Value.slice none 0 0, Value.slice none 0 0] (fun (i : Nat) => ([(0, 1), (1, 1), (2, 6), (8, 1), (9, 1)] : List (Nat × Nat))[i]?) := bu_of Tryz.underlying34 zv34 rfl (fun w => by kernel_rfl)
theorem ag34 : Ag Tryz.prog 34 10 := fun w => ⟨by kernel_rfl, by kernel_rfl⟩
theorem fo34_1 : Fo Tryz.prog 34 1 1 := fun a w => by kernel_rfl
theorem fo34_0 : Fo Tryz.prog 34 0 0 := fun a w => by kernel_rfl
theorem L.nilN {P : Program} {σ : World} {n : Nat} {K : Env} {D M : List Asn} {ops : Array Oper} {nx : Act → World → Prop} {Q : Post} (h : T σ n nx K D M) : TL none P σ n ops (Exit.then nx Q) [] K D M := L.nil (T.thenN h)
theorem L.gT {m : Option (List Asn × List Asn)} {P : Program} {σ : World} {n : Nat} {ops : Array Oper} {Q : Post} {rest : List Oper} {K : Env} {D M : List Asn} {o : Oper} {j : Nat} {b : Bool} (dj : Nat) (hg : o.guard = some (j, b)) (hj : (ops[j]?).bind (·.dst) = some dj) (hb : get K dj = some (.bool b)) (h : TL m P σ n ops Q ({ o with guard := none } :: rest) K D M) : TL m P σ n ops Q (o :: rest) K D M := L.guardT hg hj hb h
theorem L.gF {m : Option (List Asn × List Asn)} {P : Program} {σ : World} {n : Nat} {ops : Array Oper} {Q : Post} {rest : List Oper} {K : Env} {D M : List Asn} {o : Oper} {d j : Nat} {b : Bool} (dj : Nat) (c : Bool) (hg : o.guard = some (j, b)) (hdst : o.dst = some d) (hd : Nat.blt d n = true) (hj : (ops[j]?).bind (·.dst) = some dj) (hb : get K dj = some (.bool c)) (hne : c ≠ b) (h : TL m P σ n ops Q rest ((d, undef) :: K) D M) : TL m P σ n ops Q (o :: rest) K D M := L.guardF hg hdst hd hj hb hne h
theorem T.seqR {P : Program} {σ : World} {n : Nat} {K : Env} {D M : List Asn} {Q : Post} {id : Nat} {l : List Oper} {y : Code} (h : TL none P σ n l.toArray (Exit.then (wq P y Q) Q) l K D M) : T σ n (wq P (Code.seq (Code.region id l.toArray false) y) Q) K D M := T.seq (T.region h)
theorem R.{u} {α : Sort u} {a : α} : a = a := rfl
def E := @L.move
def I := @L.nilN
def O := @T.seqR
def V := @L.assign
def z7 := @A.took
def z8 := @T.thenN
def z9 := @A.tq
def zd := @SubK.nil
def ze := @T.seq
def zf := @L.load
def zg := @L.fi
def zh := @A.backT
def zi := @A.bq
def zj := @L.gT
def zm := @L.norm
def zo := @T.ret
def zp := @L.call
def zq := @T.skip
def zr := @L.extract
def zt := @T.region
def zu := @L.nil
def zv := @Spec.in0
def zw := @L.gF
def zx := @L.loadA
def zy := @T.ret1
def zz := @L.storeA
def zA := @T.cond
def zC := @L.alloc
def zD := @T.block
def zE := @L.known
def zF := @BP.one
def zG := @T.thenX
def zH := @L.callF
def zI := @ag38
def zJ := @L.nilCheck
def zK := @T.toJoin
def zL := @T.thenR
def zM := @T.norm3
def zN := @A.done
def zO := @T.freeze
def zQ := @BP.doneE
def zR := @T.condF
def zS := @T.blkN
def zT := @L.addN
def zU := @Each.cons
def zV := @T.back
def zW := @L.ltI
def zX := @Tryz.underlying5
def zY := @A.take
def zZ := @L.neI
def y3 := @T.eqv
def y4 := @T.exit
def y5 := @T.blkX
def y6 := @L.box
def y7 := @T.regionA
def y8 := @T.loop
def y9 := @gd_get
def yb := @L.lenSl
def ye := @Tryz.underlying9
def yf := @Tryz.underlying38
def yg := @L.pickF
def yh := @Tryz.underlying32
def yi := @L.eqI
def yj := @L.store
def yl := @L.buildSlice
def ym := @L.pickT
def yo := @keyT_arr
def yp := @T.ownEq
def yq := @L.build
def yt := @L.subN
def yu := @ag75
def yv := @T.blkR
def yw := @iC_len
def yx := @T.cutC
def yy := @L.gtI
def yz := @Tryz.underlying171
def yA := @A.branch
def yB := @Each.nil
def yC := @ag44
def yD := @ag85
def yE := @A.nilCheck
def yF := @L.ownRsl
def yG := @BP.agg
def yH := @A.back
def yI := @Tryz.underlying126
def yJ := @map_get
def yK := @Tryz.underlying42
def yL := @L.lenStr
def yM := @T.newOwn
def yN := @L.idxG
def yO := @exs.in
def yP := @L.idx
def yQ := @T.ownRsl
def yR := @L.toOwn
def yS := @T.retN
def yT := @L.part
def yU := @T.rslLen2
def yV := @T.condT
def yW := @T.retAT
def yX := @A.nilCheckP
def yY := @L.nilQ
def yZ := @sc171
def x6 := @L.append1
def x7 := @L.notB
def x8 := @T.ret2
def x9 := @fo85_0
def xb := @Bd.no
def xd := @Tryz.underlying108
def xe := @L.idxA1
def xf := @sz240
def xg := @T.regionQ
def xi := @Tryz.underlying3
def xj := @sc240
def xk := @T.exs
def xl := @CellsN.ofD
def xm := @Tryz.underlying203
def xo := @T.ownLen
def xp := @Tryz.underlying27
def xq := @fo276_1
def xr := @fo66_0
def xt := @T.retA
def xu := @evs.nil
def xv := @Tryz.underlying274
def xw := @L.lookupS
def xx := @fo34_1
def xy := @fo128_0
def xz := @Tryz.underlying115
def xA := @L.lookupN
def xB := @L.sliceArr
def xC := @L.appendR
def xD := @Tryz.underlying316
def xE := @digest_len
def xF := @Tryz.underlying76
def xG := @L.guardU
def xH := @look_put
def xI := @Tryz.underlying169
def xJ := @CellsN.ofOwn
def xK := @L.storeOA
def xL := @L.bytesStr
def xM := @Tryz.underlying209
def xN := @L.makeMap
def xO := @Tryz.underlying297
def xP := @L.makeFunc
def xQ := @L.mapUpdate
def xR := @mem_of_look
def xS := @Tryz.underlying195
def xU := @Tryz.underlying37
def xV := @Tryz.underlying48
theorem SubK.c {X K : Env} (t : Nat) {v : Value} (h : get K t = some v) (k : SubK X K) : SubK ((t, v) :: X) K := SubK.cons h k
end Cv
