/-
  Facts about the types of the program, and about its fields.
-/
import Derived.Test.YtahkbpiinbepcaaGreatCvLc
import Derived.Test.YtahkbpiinbepcaaGreatCvLe
import Derived.Test.YtahkbpiinbepcaaGreatCvLd
import Derived.Test.YtahkbpiinbepcaaGreatCvLg
import Derived.Test.YtahkbpiinbepcaaGreatProg
import Derived.KernelRfl
set_option linter.unusedVariables false
set_option linter.unusedSimpArgs false
set_option linter.unusedSectionVars false
set_option linter.defProp false
set_option maxRecDepth 10000
namespace Cv
open Go Go.Proofs
theorem fo133_0 : Fo Tryz.prog 133 0 0 := fun a w => by kernel_rfl
theorem sc3 : Sc Tryz.prog 3 := fun w => ⟨by kernel_rfl, by kernel_rfl⟩
theorem fo133_2 : Fo Tryz.prog 133 2 2 := fun a w => by kernel_rfl
theorem sc131 : Sc Tryz.prog 131 := fun w => ⟨by kernel_rfl, by kernel_rfl⟩
theorem fo133_1 : Fo Tryz.prog 133 1 1 := fun a w => by kernel_rfl
theorem sc9 : Sc Tryz.prog 9 := fun w => ⟨by kernel_rfl, by kernel_rfl⟩
theorem sz255 : Sz Tryz.prog 255 4 := fun w => by kernel_rfl
theorem ag255 : Ag Tryz.prog 255 4 := fun w => ⟨by kernel_rfl, by kernel_rfl⟩
theorem zv255 : ∀ w, (zeroValue 255).run Tryz.prog w = .ok (Value.agg #[S [], Value.int .i64 0, S [], Value.slice none 0 0]) w := fun w => by kernel_rfl
theorem ze255 : Ze Tryz.prog 255 [S [], Value.int .i64 0, S [], Value.slice none 0 0] := ⟨_, rfl, zv255⟩
theorem fo255_0 : Fo Tryz.prog 255 0 0 := fun a w => by kernel_rfl
theorem fo255_1 : Fo Tryz.prog 255 1 1 := fun a w => by kernel_rfl
theorem ag133 : Ag Tryz.prog 133 3 := fun w => ⟨by kernel_rfl, by kernel_rfl⟩
@[reducible] def e3 : Int → List Value | a => [.int .i64 a]
def g3 : Int → Prop | a => (-9223372036854775808 ≤ a ∧ a ≤ 9223372036854775807)
theorem el3z {H : Type} {enc : TypeId × Value → H} {W : World} {base : Nat} {sp : Nat → Bool} {held : Bool} {n : Nat} {cs : List Value} {y : DataW H × List MemPlace} (h : DataW.trod enc Tryz.prog W base sp held n 3 cs = some y) : ∃ z, cs = e3 z ∧ g3 z := by
  obtain ⟨n, rfl, -, hw⟩ := DataW.trod_int Tryz.underlying3 h
  exact ⟨n, rfl, Cv.wf64 hw⟩
theorem zv3 : ∀ w, (zeroValue 3).run Tryz.prog w = .ok (Value.int .i64 0) w := fun w => by kernel_rfl
theorem el5 : El Tryz.prog 5 1 1 := ⟨_, _, rfl, rfl, by kernel_rfl, by kernel_rfl, by kernel_rfl⟩
theorem zv5 : ∀ w, (zeroValue 5).run Tryz.prog w = .ok (Value.int .u8 0) w := fun w => by kernel_rfl
theorem bs128 : Bs Tryz.prog 128 5 1 [Value.int .u8 0] := bs_of Tryz.underlying128 (fun w => by kernel_rfl) zv5 rfl rfl (by decide)
theorem sz3 : Sz Tryz.prog 3 1 := fun w => by kernel_rfl
theorem fo216_0 : Fo Tryz.prog 216 0 0 := fun a w => by kernel_rfl
theorem sc214 : Sc Tryz.prog 214 := fun w => ⟨by kernel_rfl, by kernel_rfl⟩
theorem fo216_1 : Fo Tryz.prog 216 1 1 := fun a w => by kernel_rfl
theorem sc128 : Sc Tryz.prog 128 := fun w => ⟨by kernel_rfl, by kernel_rfl⟩
theorem bs22 : Bs Tryz.prog 22 3 1 [Value.int .i64 0] := bs_of Tryz.underlying22 (fun w => by kernel_rfl) zv3 rfl rfl (by decide)
theorem zv216 : ∀ w, (zeroValue 216).run Tryz.prog w = .ok (Value.agg #[Value.pointer none, Value.slice none 0 0]) w := fun w => by kernel_rfl
theorem ze216 : Ze Tryz.prog 216 [Value.pointer none, Value.slice none 0 0] := ⟨_, rfl, zv216⟩
theorem zv233 : ∀ w, (zeroValue 233).run Tryz.prog w = .ok (Value.agg #[S [], Value.int .i64 0]) w := fun w => by kernel_rfl
theorem bu233 : Bu Tryz.prog 233 [S [], Value.int .i64 0] (fun (i : Nat) => ([(0, 1), (1, 1)] : List (Nat × Nat))[i]?) := bu_of Tryz.underlying233 zv233 rfl (fun w => by kernel_rfl)
theorem fo233_1 : Fo Tryz.prog 233 1 1 := fun a w => by kernel_rfl
theorem sc39 : Sc Tryz.prog 39 := fun w => ⟨by kernel_rfl, by kernel_rfl⟩
theorem fo233_0 : Fo Tryz.prog 233 0 0 := fun a w => by kernel_rfl
theorem sz5 : Sz Tryz.prog 5 1 := fun w => by kernel_rfl
theorem sc5 : Sc Tryz.prog 5 := fun w => ⟨by kernel_rfl, by kernel_rfl⟩
theorem zv165 : ∀ w, (zeroValue 165).run Tryz.prog w = .ok (Value.agg #[S [], Value.int .i64 0]) w := fun w => by kernel_rfl
theorem ze165 : Ze Tryz.prog 165 [S [], Value.int .i64 0] := ⟨_, rfl, zv165⟩
theorem fo165_1 : Fo Tryz.prog 165 1 1 := fun a w => by kernel_rfl
theorem ag165 : Ag Tryz.prog 165 2 := fun w => ⟨by kernel_rfl, by kernel_rfl⟩
theorem fo165_0 : Fo Tryz.prog 165 0 0 := fun a w => by kernel_rfl
theorem bu165 : Bu Tryz.prog 165 [S [], Value.int .i64 0] (fun (i : Nat) => ([(0, 1), (1, 1)] : List (Nat × Nat))[i]?) := bu_of Tryz.underlying165 zv165 rfl (fun w => by kernel_rfl)
theorem zv246 : ∀ w, (zeroValue 246).run Tryz.prog w = .ok (Value.agg #[.int .u32 0, .int .u32 0, .int .u32 0, .int .u32 0, .int .u32 0, .int .u32 0, .int .u32 0, .int .u32 0, .int .u32 0, .int .u32 0, .int .u32 0, .int .u32 0, .int .u32 0, .int .u32 0, .int .u32 0, .int .u32 0, .int .u32 0, .int .u32 0, .int .u32 0, .int .u32 0, .int .u32 0, .int .u32 0, .int .u32 0, .int .u32 0, .int .u32 0, .int .u32 0, .int .u32 0, .int .u32 0, .int .u32 0, .int .u32 0, .int .u32 0, .int .u32 0, .int .u32 0, .int .u32 0, .int .u32 0, .int .u32 0, .int .u32 0, .int .u32 0, .int .u32 0, .int .u32 0, .int .u32 0, .int .u32 0, .int .u32 0, .int .u32 0, .int .u32 0, .int .u32 0, .int .u32 0, .int .u32 0, .int .u32 0, .int .u32 0, .int .u32 0, .int .u32 0, .int .u32 0, .int .u32 0, .int .u32 0, .int .u32 0, .int .u32 0, .int .u32 0, .int .u32 0, .int .u32 0, .int .u32 0, .int .u32 0, .int .u32 0, .int .u32 0]) w := fun w => by kernel_rfl
theorem ze246 : Ze Tryz.prog 246 ((List.replicate 64 (0 : BitVec 32)).map W) := ⟨_, rfl, zv246⟩
theorem sz208 : Sz Tryz.prog 208 1 := fun w => by kernel_rfl
theorem bua246 : Bu Tryz.prog 246 [Value.int .u32 0, .int .u32 0, .int .u32 0, .int .u32 0, .int .u32 0, .int .u32 0, .int .u32 0, .int .u32 0, .int .u32 0, .int .u32 0, .int .u32 0, .int .u32 0, .int .u32 0, .int .u32 0, .int .u32 0, .int .u32 0, .int .u32 0, .int .u32 0, .int .u32 0, .int .u32 0, .int .u32 0, .int .u32 0, .int .u32 0, .int .u32 0, .int .u32 0, .int .u32 0, .int .u32 0, .int .u32 0, .int .u32 0, .int .u32 0, .int .u32 0, .int .u32 0, .int .u32 0, .int .u32 0, .int .u32 0, .int .u32 0, .int .u32 0, .int .u32 0, .int .u32 0, .int .u32 0, .int .u32 0, .int .u32 0, .int .u32 0, .int .u32 0, .int .u32 0, .int .u32 0, .int .u32 0, .int .u32 0, .int .u32 0, .int .u32 0, .int .u32 0, .int .u32 0, .int .u32 0, .int .u32 0, .int .u32 0, .int .u32 0, .int .u32 0, .int .u32 0, .int .u32 0, .int .u32 0, .int .u32 0, .int .u32 0, .int .u32 0, .int .u32 0] (fun (i : Nat) => some (i * 1, 1)) := bua_of Tryz.underlying246 zv246 rfl sz208
theorem ag246 : Ag Tryz.prog 246 64 := fun w => ⟨by kernel_rfl, by kernel_rfl⟩
theorem sc208 : Sc Tryz.prog 208 := fun w => ⟨by kernel_rfl, by kernel_rfl⟩
theorem fo212_0 : Fo Tryz.prog 212 0 0 := fun a w => by kernel_rfl
theorem ag210 : Ag Tryz.prog 210 8 := fun w => ⟨by kernel_rfl, by kernel_rfl⟩
theorem zv210 : ∀ w, (zeroValue 210).run Tryz.prog w = .ok (Value.agg #[.int .u32 0, .int .u32 0, .int .u32 0, .int .u32 0, .int .u32 0, .int .u32 0, .int .u32 0, .int .u32 0]) w := fun w => by kernel_rfl
theorem ze210 : Ze Tryz.prog 210 ((List.replicate 8 (0 : BitVec 32)).map W) := ⟨_, rfl, zv210⟩
theorem bua210 : Bu Tryz.prog 210 [Value.int .u32 0, .int .u32 0, .int .u32 0, .int .u32 0, .int .u32 0, .int .u32 0, .int .u32 0, .int .u32 0] (fun (i : Nat) => some (i * 1, 1)) := bua_of Tryz.underlying210 zv210 rfl sz208
theorem zv212 : ∀ w, (zeroValue 212).run Tryz.prog w = .ok (Value.agg #[.int .u32 0, .int .u32 0, .int .u32 0, .int .u32 0, .int .u32 0, .int .u32 0, .int .u32 0, .int .u32 0, Value.slice none 0 0, .int .u64 0]) w := fun w => by kernel_rfl
theorem bu212 : Bu Tryz.prog 212 [Value.int .u32 0, .int .u32 0, .int .u32 0, .int .u32 0, .int .u32 0, .int .u32 0, .int .u32 0, .int .u32 0, Value.slice none 0 0, .int .u64 0] (fun (i : Nat) => ([(0, 8), (8, 1), (9, 1)] : List (Nat × Nat))[i]?) := bu_of Tryz.underlying212 zv212 rfl (fun w => by kernel_rfl)
theorem sz9 : Sz Tryz.prog 9 1 := fun w => by kernel_rfl
theorem fo212_2 : Fo Tryz.prog 212 2 9 := fun a w => by kernel_rfl
theorem sc176 : Sc Tryz.prog 176 := fun w => ⟨by kernel_rfl, by kernel_rfl⟩
theorem fo212_1 : Fo Tryz.prog 212 1 8 := fun a w => by kernel_rfl
theorem zv37 : ∀ w, (zeroValue 37).run Tryz.prog w = .ok (Value.agg #[.int .u8 0, .int .u8 0, .int .u8 0, .int .u8 0, .int .u8 0, .int .u8 0, .int .u8 0, .int .u8 0, .int .u8 0, .int .u8 0, .int .u8 0, .int .u8 0, .int .u8 0, .int .u8 0, .int .u8 0, .int .u8 0, .int .u8 0, .int .u8 0, .int .u8 0, .int .u8 0, .int .u8 0, .int .u8 0, .int .u8 0, .int .u8 0, .int .u8 0, .int .u8 0, .int .u8 0, .int .u8 0, .int .u8 0, .int .u8 0, .int .u8 0, .int .u8 0]) w := fun w => by kernel_rfl
theorem ze37 : Ze Tryz.prog 37 ((List.replicate 32 (0 : UInt8)).map Y) := ⟨_, rfl, zv37⟩
theorem ag212 : Ag Tryz.prog 212 10 := fun w => ⟨by kernel_rfl, by kernel_rfl⟩
theorem ze212 : Ze Tryz.prog 212 [Value.int .u32 0, .int .u32 0, .int .u32 0, .int .u32 0, .int .u32 0, .int .u32 0, .int .u32 0, .int .u32 0, Value.slice none 0 0, .int .u64 0] := ⟨_, rfl, zv212⟩
theorem ag37 : Ag Tryz.prog 37 32 := fun w => ⟨by kernel_rfl, by kernel_rfl⟩
theorem zv38 : ∀ w, (zeroValue 38).run Tryz.prog w = .ok (Value.agg #[.int .u8 0, .int .u8 0, .int .u8 0, .int .u8 0, .int .u8 0, .int .u8 0, .int .u8 0, .int .u8 0, .int .u8 0, .int .u8 0, .int .u8 0, .int .u8 0, .int .u8 0, .int .u8 0, .int .u8 0, .int .u8 0, .int .u8 0, .int .u8 0, .int .u8 0, .int .u8 0, .int .u8 0, .int .u8 0, .int .u8 0, .int .u8 0, .int .u8 0, .int .u8 0, .int .u8 0, .int .u8 0, .int .u8 0, .int .u8 0, .int .u8 0, .int .u8 0]) w := fun w => by kernel_rfl
theorem ze38 : Ze Tryz.prog 38 ((List.replicate 32 (0 : UInt8)).map Y) := ⟨_, rfl, zv38⟩
theorem zv9 : ∀ w, (zeroValue 9).run Tryz.prog w = .ok (S []) w := fun w => by kernel_rfl
theorem bs31 : Bs Tryz.prog 31 9 1 [S []] := bs_of Tryz.underlying31 (fun w => by kernel_rfl) zv9 rfl rfl (by decide)
theorem ag38 : Ag Tryz.prog 38 32 := fun w => ⟨by kernel_rfl, by kernel_rfl⟩
theorem sc268 : Sc Tryz.prog 268 := fun w => ⟨by kernel_rfl, by kernel_rfl⟩
theorem sz38 : Sz Tryz.prog 38 32 := fun w => by kernel_rfl
theorem ze3 : Ze Tryz.prog 3 [Value.int .i64 0] := ⟨_, rfl, zv3⟩
theorem zv268 : ∀ w, (zeroValue 268).run Tryz.prog w = .ok (Value.int .u64 0) w := fun w => by kernel_rfl
theorem ze268 : Ze Tryz.prog 268 [Value.int .u64 0] := ⟨_, rfl, zv268⟩
theorem zv228 : ∀ w, (zeroValue 228).run Tryz.prog w = .ok (Value.agg #[.int .u64 0, .int .u64 0, .int .u64 0, .int .u64 0, .int .u64 0, .int .u64 0, .int .u64 0, .int .u64 0, .int .u64 0, .int .u64 0, .int .u64 0, .int .u64 0, .int .u64 0, .int .u64 0, .int .u64 0, .int .u64 0, .int .u64 0, .int .u64 0, .int .u64 0, .int .u64 0, .int .u64 0, .int .u64 0, .int .u64 0, .int .u64 0, .int .u64 0, .int .u64 0, .int .u64 0, .int .u64 0, .int .u64 0, .int .u64 0, .int .u64 0, .int .u64 0, .int .u64 0, .int .u64 0, .int .u64 0, .int .u64 0, .int .u64 0, .int .u64 0, .int .u64 0, .int .u64 0, .int .u64 0, .int .u64 0, .int .u64 0, .int .u64 0, .int .u64 0, .int .u64 0, .int .u64 0, .int .u64 0, .int .u64 0, .int .u64 0, .int .u64 0, .int .u64 0, .int .u64 0, .int .u64 0, .int .u64 0, .int .u64 0, .int .u64 0, .int .u64 0, .int .u64 0, .int .u64 0, .int .u64 0, .int .u64 0, .int .u64 0, .int .u64 0, .int .u64 0, .int .u64 0, .int .u64 0, .int .u64 0, .int .u64 0, .int .u64 0, .int .u64 0, .int .u64 0, .int .u64 0, .int .u64 0, .int .u64 0, .int .u64 0, .int .u64 0, .int .u64 0, .int .u64 0, .int .u64 0, .int .u64 0, .int .u64 0, .int .u64 0, .int .u64 0, .int .u64 0, .int .u64 0, .int .u64 0, .int .u64 0, .int .u64 0, .int .u64 0, .int .u64 0, .int .u64 0, .int .u64 0, .int .u64 0, .int .u64 0, .int .u64 0, .int .u64 0, .int .u64 0, .int .u64 0, .int .u64 0, .int .u64 0, .int .u64 0, .int .u64 0, .int .u64 0, .int .u64 0, .int .u64 0, .int .u64 0, .int .u64 0, .int .u64 0, .int .u64 0, .int .u64 0, .int .u64 0, .int .u64 0, .int .u64 0, .int .u64 0, .int .u64 0, .int .u64 0, .int .u64 0, .int .u64 0, .int .u64 0, .int .u64 0, .int .u64 0, .int .u64 0, .int .u64 0, .int .u64 0, .int .u64 0, .int .u64 0, .int .u64 0, .int .u64 0, .int .u64 0, .int .u64 0, .int .u64 0, .int .u64 0, .int .u64 0, .int .u64 0, .int .u64 0, .int .u64 0, .int .u64 0, .int .u64 0, .int .u64 0, .int .u64 0, .int .u64 0, .int .u64 0, .int .u64 0, .int .u64 0, .int .u64 0, .int .u64 0, .int .u64 0, .int .u64 0, .int .u64 0, .int .u64 0, .int .u64 0, .int .u64 0, .int .u64 0, .int .u64 0, .int .u64 0, .int .u64 0, .int .u64 0, .int .u64 0, .int .u64 0, .int .u64 0, .int .u64 0, .int .u64 0, .int .u64 0, .int .u64 0, .int .u64 0, .int .u64 0, .int .u64 0, .int .u64 0, .int .u64 0, .int .u64 0, .int .u64 0, .int .u64 0, .int .u64 0, .int .u64 0, .int .u64 0, .int .u64 0, .int .u64 0, .int .u64 0, .int .u64 0, .int .u64 0, .int .u64 0, .int .u64 0, .int .u64 0, .int .u64 0, .int .u64 0, .int .u64 0, .int .u64 0, .int .u64 0, .int .u64 0, .int .u64 0, .int .u64 0, .int .u64 0, .int .u64 0, .int .u64 0, .int .u64 0, .int .u64 0, .int .u64 0, .int .u64 0, .int .u64 0, .int .u64 0, .int .u64 0, .int .u64 0, .int .u64 0, .int .u64 0, .int .u64 0, .int .u64 0, .int .u64 0, .int .u64 0, .int .u64 0, .int .u64 0, .int .u64 0, .int .u64 0, .int .u64 0, .int .u64 0, .int .u64 0, .int .u64 0, .int .u64 0, .int .u64 0, .int .u64 0, .int .u64 0, .int .u64 0, .int .u64 0, .int .u64 0, .int .u64 0, .int .u64 0, .int .u64 0, .int .u64 0, .int .u64 0, .int .u64 0, .int .u64 0, .int .u64 0, .int .u64 0, .int .u64 0, .int .u64 0, .int .u64 0, .int .u64 0, .int .u64 0, .int .u64 0, .int .u64 0, .int .u64 0, .int .u64 0, .int .u64 0, .int .u64 0, .int .u64 0, .int .u64 0, .int .u64 0, .int .u64 0, .int .u64 0, .int .u64 0, .int .u64 0, .int .u64 0, .int .u64 0, .int .u64 0, .int .u64 0, .int .u64 0]) w := fun w => by kernel_rfl
theorem ze228 : Ze Tryz.prog 228 ((List.replicate 256 (0 : Int)).map (Value.int .u64)) := ⟨_, rfl, zv228⟩
theorem sz176 : Sz Tryz.prog 176 1 := fun w => by kernel_rfl
theorem zv288 : ∀ w, (zeroValue 288).run Tryz.prog w = .ok (Value.agg #[Value.pointer none, Value.int .u64 0, .int .i64 0]) w := fun w => by kernel_rfl
theorem bu288 : Bu Tryz.prog 288 [Value.pointer none, Value.int .u64 0, .int .i64 0] (fun (i : Nat) => ([(0, 1), (1, 1), (2, 1)] : List (Nat × Nat))[i]?) := bu_of Tryz.underlying288 zv288 rfl (fun w => by kernel_rfl)
theorem fo288_1 : Fo Tryz.prog 288 1 1 := fun a w => by kernel_rfl
theorem fo288_0 : Fo Tryz.prog 288 0 0 := fun a w => by kernel_rfl
theorem sc182 : Sc Tryz.prog 182 := fun w => ⟨by kernel_rfl, by kernel_rfl⟩
theorem fo288_2 : Fo Tryz.prog 288 2 2 := fun a w => by kernel_rfl
theorem zv280 : ∀ w, (zeroValue 280).run Tryz.prog w = .ok (Value.agg #[Value.pointer none, Value.slice none 0 0]) w := fun w => by kernel_rfl
theorem bu280 : Bu Tryz.prog 280 [Value.pointer none, Value.slice none 0 0] (fun (i : Nat) => ([(0, 1), (1, 1)] : List (Nat × Nat))[i]?) := bu_of Tryz.underlying280 zv280 rfl (fun w => by kernel_rfl)
theorem fo280_1 : Fo Tryz.prog 280 1 1 := fun a w => by kernel_rfl
theorem fo280_0 : Fo Tryz.prog 280 0 0 := fun a w => by kernel_rfl
theorem sc277 : Sc Tryz.prog 277 := fun w => ⟨by kernel_rfl, by kernel_rfl⟩
theorem el9 : El Tryz.prog 9 1 16 := ⟨_, _, rfl, rfl, by kernel_rfl, by kernel_rfl, by kernel_rfl⟩
theorem zv31 : ∀ w, (zeroValue 31).run Tryz.prog w = .ok (Value.slice none 0 0) w := fun w => by kernel_rfl
theorem ze31 : Ze Tryz.prog 31 [Value.slice none 0 0] := ⟨_, rfl, zv31⟩
theorem sc31 : Sc Tryz.prog 31 := fun w => ⟨by kernel_rfl, by kernel_rfl⟩
theorem zv45 : ∀ w, (zeroValue 45).run Tryz.prog w = .ok (Value.agg #[.int .i64 0, .int .u8 0, .int .u8 0, .int .u8 0, .int .u8 0, .int .u8 0, .int .u8 0, .int .u8 0, .int .u8 0, .int .u8 0, .int .u8 0, .int .u8 0, .int .u8 0, .int .u8 0, .int .u8 0, .int .u8 0, .int .u8 0, .int .u8 0, .int .u8 0, .int .u8 0, .int .u8 0, .int .u8 0, .int .u8 0, .int .u8 0, .int .u8 0, .int .u8 0, .int .u8 0, .int .u8 0, .int .u8 0, .int .u8 0, .int .u8 0, .int .u8 0, .int .u8 0, S []]) w := fun w => by kernel_rfl
theorem ze45 : Ze Tryz.prog 45 (Value.int .i64 0 :: .int .u8 0 :: .int .u8 0 :: .int .u8 0 :: .int .u8 0 :: .int .u8 0 :: .int .u8 0 :: .int .u8 0 :: .int .u8 0 :: .int .u8 0 :: .int .u8 0 :: .int .u8 0 :: .int .u8 0 :: .int .u8 0 :: .int .u8 0 :: .int .u8 0 :: .int .u8 0 :: .int .u8 0 :: .int .u8 0 :: .int .u8 0 :: .int .u8 0 :: .int .u8 0 :: .int .u8 0 :: .int .u8 0 :: .int .u8 0 :: .int .u8 0 :: .int .u8 0 :: .int .u8 0 :: .int .u8 0 :: .int .u8 0 :: .int .u8 0 :: .int .u8 0 :: .int .u8 0 :: S [] :: []) := ⟨_, rfl, zv45⟩
theorem bu45 : Bu Tryz.prog 45 (Value.int .i64 0 :: .int .u8 0 :: .int .u8 0 :: .int .u8 0 :: .int .u8 0 :: .int .u8 0 :: .int .u8 0 :: .int .u8 0 :: .int .u8 0 :: .int .u8 0 :: .int .u8 0 :: .int .u8 0 :: .int .u8 0 :: .int .u8 0 :: .int .u8 0 :: .int .u8 0 :: .int .u8 0 :: .int .u8 0 :: .int .u8 0 :: .int .u8 0 :: .int .u8 0 :: .int .u8 0 :: .int .u8 0 :: .int .u8 0 :: .int .u8 0 :: .int .u8 0 :: .int .u8 0 :: .int .u8 0 :: .int .u8 0 :: .int .u8 0 :: .int .u8 0 :: .int .u8 0 :: .int .u8 0 :: S [] :: []) (fun (i : Nat) => ([(0, 1), (1, 32), (33, 1)] : List (Nat × Nat))[i]?) := bu_of Tryz.underlying45 zv45 rfl (fun w => by kernel_rfl)
theorem ag45 : Ag Tryz.prog 45 34 := fun w => ⟨by kernel_rfl, by kernel_rfl⟩
theorem ag51 : Ag Tryz.prog 51 33 := fun w => ⟨by kernel_rfl, by kernel_rfl⟩
theorem fo49_0 : Fo Tryz.prog 49 0 0 := fun a w => by kernel_rfl
theorem fo49_1 : Fo Tryz.prog 49 1 1 := fun a w => by kernel_rfl
theorem sc47 : Sc Tryz.prog 47 := fun w => ⟨by kernel_rfl, by kernel_rfl⟩
theorem sz51 : Sz Tryz.prog 51 33 := fun w => by kernel_rfl
theorem zv51 : ∀ w, (zeroValue 51).run Tryz.prog w = .ok (Value.agg #[.int .u8 0, .int .u8 0, .int .u8 0, .int .u8 0, .int .u8 0, .int .u8 0, .int .u8 0, .int .u8 0, .int .u8 0, .int .u8 0, .int .u8 0, .int .u8 0, .int .u8 0, .int .u8 0, .int .u8 0, .int .u8 0, .int .u8 0, .int .u8 0, .int .u8 0, .int .u8 0, .int .u8 0, .int .u8 0, .int .u8 0, .int .u8 0, .int .u8 0, .int .u8 0, .int .u8 0, .int .u8 0, .int .u8 0, .int .u8 0, .int .u8 0, .int .u8 0, .int .i64 0]) w := fun w => by kernel_rfl
theorem ze51 : Ze Tryz.prog 51 (Value.int .u8 0 :: .int .u8 0 :: .int .u8 0 :: .int .u8 0 :: .int .u8 0 :: .int .u8 0 :: .int .u8 0 :: .int .u8 0 :: .int .u8 0 :: .int .u8 0 :: .int .u8 0 :: .int .u8 0 :: .int .u8 0 :: .int .u8 0 :: .int .u8 0 :: .int .u8 0 :: .int .u8 0 :: .int .u8 0 :: .int .u8 0 :: .int .u8 0 :: .int .u8 0 :: .int .u8 0 :: .int .u8 0 :: .int .u8 0 :: .int .u8 0 :: .int .u8 0 :: .int .u8 0 :: .int .u8 0 :: .int .u8 0 :: .int .u8 0 :: .int .u8 0 :: .int .u8 0 :: .int .i64 0 :: []) := ⟨_, rfl, zv51⟩
theorem fo51_0 : Fo Tryz.prog 51 0 0 := fun a w => by kernel_rfl
theorem fo51_1 : Fo Tryz.prog 51 1 32 := fun a w => by kernel_rfl
theorem el51 : El Tryz.prog 51 33 40 := ⟨_, _, rfl, rfl, by kernel_rfl, by kernel_rfl, by kernel_rfl⟩
theorem el45 : El Tryz.prog 45 34 56 := ⟨_, _, rfl, rfl, by kernel_rfl, by kernel_rfl, by kernel_rfl⟩
theorem zv47 : ∀ w, (zeroValue 47).run Tryz.prog w = .ok (Value.slice none 0 0) w := fun w => by kernel_rfl
theorem ze47 : Ze Tryz.prog 47 [Value.slice none 0 0] := ⟨_, rfl, zv47⟩
theorem zv24 : ∀ w, (zeroValue 24).run Tryz.prog w = .ok (Value.slice none 0 0) w := fun w => by kernel_rfl
theorem ze24 : Ze Tryz.prog 24 [Value.slice none 0 0] := ⟨_, rfl, zv24⟩
theorem zv49 : ∀ w, (zeroValue 49).run Tryz.prog w = .ok (Value.agg #[.int .i64 0, Value.slice none 0 0]) w := fun w => by kernel_rfl
theorem bu49 : Bu Tryz.prog 49 [Value.int .i64 0, Value.slice none 0 0] (fun (i : Nat) => ([(0, 1), (1, 1)] : List (Nat × Nat))[i]?) := bu_of Tryz.underlying49 zv49 rfl (fun w => by kernel_rfl)
theorem ze49 : Ze Tryz.prog 49 [Value.int .i64 0, Value.slice none 0 0] := ⟨_, rfl, zv49⟩
theorem ag49 : Ag Tryz.prog 49 2 := fun w => ⟨by kernel_rfl, by kernel_rfl⟩
theorem fo45_1 : Fo Tryz.prog 45 1 1 := fun a w => by kernel_rfl
theorem bu51 : Bu Tryz.prog 51 (Value.int .u8 0 :: .int .u8 0 :: .int .u8 0 :: .int .u8 0 :: .int .u8 0 :: .int .u8 0 :: .int .u8 0 :: .int .u8 0 :: .int .u8 0 :: .int .u8 0 :: .int .u8 0 :: .int .u8 0 :: .int .u8 0 :: .int .u8 0 :: .int .u8 0 :: .int .u8 0 :: .int .u8 0 :: .int .u8 0 :: .int .u8 0 :: .int .u8 0 :: .int .u8 0 :: .int .u8 0 :: .int .u8 0 :: .int .u8 0 :: .int .u8 0 :: .int .u8 0 :: .int .u8 0 :: .int .u8 0 :: .int .u8 0 :: .int .u8 0 :: .int .u8 0 :: .int .u8 0 :: .int .i64 0 :: []) (fun (i : Nat) => ([(0, 32), (32, 1)] : List (Nat × Nat))[i]?) := bu_of Tryz.underlying51 zv51 rfl (fun w => by kernel_rfl)
theorem bs47 : Bs Tryz.prog 47 51 33 (Value.int .u8 0 :: .int .u8 0 :: .int .u8 0 :: .int .u8 0 :: .int .u8 0 :: .int .u8 0 :: .int .u8 0 :: .int .u8 0 :: .int .u8 0 :: .int .u8 0 :: .int .u8 0 :: .int .u8 0 :: .int .u8 0 :: .int .u8 0 :: .int .u8 0 :: .int .u8 0 :: .int .u8 0 :: .int .u8 0 :: .int .u8 0 :: .int .u8 0 :: .int .u8 0 :: .int .u8 0 :: .int .u8 0 :: .int .u8 0 :: .int .u8 0 :: .int .u8 0 :: .int .u8 0 :: .int .u8 0 :: .int .u8 0 :: .int .u8 0 :: .int .u8 0 :: .int .u8 0 :: .int .i64 0 :: []) := bs_of Tryz.underlying47 (fun w => by kernel_rfl) zv51 rfl rfl (by decide)
theorem sc24 : Sc Tryz.prog 24 := fun w => ⟨by kernel_rfl, by kernel_rfl⟩
theorem bs24 : Bs Tryz.prog 24 45 34 (Value.int .i64 0 :: .int .u8 0 :: .int .u8 0 :: .int .u8 0 :: .int .u8 0 :: .int .u8 0 :: .int .u8 0 :: .int .u8 0 :: .int .u8 0 :: .int .u8 0 :: .int .u8 0 :: .int .u8 0 :: .int .u8 0 :: .int .u8 0 :: .int .u8 0 :: .int .u8 0 :: .int .u8 0 :: .int .u8 0 :: .int .u8 0 :: .int .u8 0 :: .int .u8 0 :: .int .u8 0 :: .int .u8 0 :: .int .u8 0 :: .int .u8 0 :: .int .u8 0 :: .int .u8 0 :: .int .u8 0 :: .int .u8 0 :: .int .u8 0 :: .int .u8 0 :: .int .u8 0 :: .int .u8 0 :: S [] :: []) := bs_of Tryz.underlying24 (fun w => by kernel_rfl) zv45 rfl rfl (by decide)
theorem bs30 : Bs Tryz.prog 30 38 32 (Value.int .u8 0 :: .int .u8 0 :: .int .u8 0 :: .int .u8 0 :: .int .u8 0 :: .int .u8 0 :: .int .u8 0 :: .int .u8 0 :: .int .u8 0 :: .int .u8 0 :: .int .u8 0 :: .int .u8 0 :: .int .u8 0 :: .int .u8 0 :: .int .u8 0 :: .int .u8 0 :: .int .u8 0 :: .int .u8 0 :: .int .u8 0 :: .int .u8 0 :: .int .u8 0 :: .int .u8 0 :: .int .u8 0 :: .int .u8 0 :: .int .u8 0 :: .int .u8 0 :: .int .u8 0 :: .int .u8 0 :: .int .u8 0 :: .int .u8 0 :: .int .u8 0 :: .int .u8 0 :: []) := bs_of Tryz.underlying30 (fun w => by kernel_rfl) zv38 rfl rfl (by decide)
theorem el38 : El Tryz.prog 38 32 32 := ⟨_, _, rfl, rfl, by kernel_rfl, by kernel_rfl, by kernel_rfl⟩
theorem fo54_0 : Fo Tryz.prog 54 0 0 := fun a w => by kernel_rfl
theorem fo54_1 : Fo Tryz.prog 54 1 33 := fun a w => by kernel_rfl
theorem sc30 : Sc Tryz.prog 30 := fun w => ⟨by kernel_rfl, by kernel_rfl⟩
theorem ag54 : Ag Tryz.prog 54 34 := fun w => ⟨by kernel_rfl, by kernel_rfl⟩
theorem zv54 : ∀ w, (zeroValue 54).run Tryz.prog w = .ok (Value.agg #[.int .u8 0, .int .u8 0, .int .u8 0, .int .u8 0, .int .u8 0, .int .u8 0, .int .u8 0, .int .u8 0, .int .u8 0, .int .u8 0, .int .u8 0, .int .u8 0, .int .u8 0, .int .u8 0, .int .u8 0, .int .u8 0, .int .u8 0, .int .u8 0, .int .u8 0, .int .u8 0, .int .u8 0, .int .u8 0, .int .u8 0, .int .u8 0, .int .u8 0, .int .u8 0, .int .u8 0, .int .u8 0, .int .u8 0, .int .u8 0, .int .u8 0, .int .u8 0, .int .i64 0, Value.slice none 0 0]) w := fun w => by kernel_rfl
theorem ze54 : Ze Tryz.prog 54 (Value.int .u8 0 :: .int .u8 0 :: .int .u8 0 :: .int .u8 0 :: .int .u8 0 :: .int .u8 0 :: .int .u8 0 :: .int .u8 0 :: .int .u8 0 :: .int .u8 0 :: .int .u8 0 :: .int .u8 0 :: .int .u8 0 :: .int .u8 0 :: .int .u8 0 :: .int .u8 0 :: .int .u8 0 :: .int .u8 0 :: .int .u8 0 :: .int .u8 0 :: .int .u8 0 :: .int .u8 0 :: .int .u8 0 :: .int .u8 0 :: .int .u8 0 :: .int .u8 0 :: .int .u8 0 :: .int .u8 0 :: .int .u8 0 :: .int .u8 0 :: .int .u8 0 :: .int .u8 0 :: .int .i64 0 :: Value.slice none 0 0 :: []) := ⟨_, rfl, zv54⟩
theorem bu54 : Bu Tryz.prog 54 (Value.int .u8 0 :: .int .u8 0 :: .int .u8 0 :: .int .u8 0 :: .int .u8 0 :: .int .u8 0 :: .int .u8 0 :: .int .u8 0 :: .int .u8 0 :: .int .u8 0 :: .int .u8 0 :: .int .u8 0 :: .int .u8 0 :: .int .u8 0 :: .int .u8 0 :: .int .u8 0 :: .int .u8 0 :: .int .u8 0 :: .int .u8 0 :: .int .u8 0 :: .int .u8 0 :: .int .u8 0 :: .int .u8 0 :: .int .u8 0 :: .int .u8 0 :: .int .u8 0 :: .int .u8 0 :: .int .u8 0 :: .int .u8 0 :: .int .u8 0 :: .int .u8 0 :: .int .u8 0 :: .int .i64 0 :: Value.slice none 0 0 :: []) (fun (i : Nat) => ([(0, 33), (33, 1)] : List (Nat × Nat))[i]?) := bu_of Tryz.underlying54 zv54 rfl (fun w => by kernel_rfl)
theorem fo107_0 : Fo Tryz.prog 107 0 0 := fun a w => by kernel_rfl
theorem fo105_1 : Fo Tryz.prog 105 1 1 := fun a w => by kernel_rfl
theorem fo107_1 : Fo Tryz.prog 107 1 2 := fun a w => by kernel_rfl
theorem zv107 : ∀ w, (zeroValue 107).run Tryz.prog w = .ok (Value.agg #[S [], Value.int .i64 0, Value.slice none 0 0]) w := fun w => by kernel_rfl
theorem ze107 : Ze Tryz.prog 107 [S [], Value.int .i64 0, Value.slice none 0 0] := ⟨_, rfl, zv107⟩
theorem bu107 : Bu Tryz.prog 107 [S [], Value.int .i64 0, Value.slice none 0 0] (fun (i : Nat) => ([(0, 2), (2, 1)] : List (Nat × Nat))[i]?) := bu_of Tryz.underlying107 zv107 rfl (fun w => by kernel_rfl)
theorem ag107 : Ag Tryz.prog 107 3 := fun w => ⟨by kernel_rfl, by kernel_rfl⟩
theorem zv105 : ∀ w, (zeroValue 105).run Tryz.prog w = .ok (Value.agg #[S [], Value.int .i64 0]) w := fun w => by kernel_rfl
theorem bu105 : Bu Tryz.prog 105 [S [], Value.int .i64 0] (fun (i : Nat) => ([(0, 1), (1, 1)] : List (Nat × Nat))[i]?) := bu_of Tryz.underlying105 zv105 rfl (fun w => by kernel_rfl)
theorem fo26_0 : Fo Tryz.prog 26 0 0 := fun a w => by kernel_rfl
theorem sz45 : Sz Tryz.prog 45 34 := fun w => by kernel_rfl
theorem fo45_0 : Fo Tryz.prog 45 0 0 := fun a w => by kernel_rfl
theorem fo45_2 : Fo Tryz.prog 45 2 33 := fun a w => by kernel_rfl
theorem ag118 : Ag Tryz.prog 118 3 := fun w => ⟨by kernel_rfl, by kernel_rfl⟩
theorem sz118 : Sz Tryz.prog 118 3 := fun w => by kernel_rfl
theorem zv118 : ∀ w, (zeroValue 118).run Tryz.prog w = .ok (Value.agg #[.int .i64 0, S [], S []]) w := fun w => by kernel_rfl
theorem ze118 : Ze Tryz.prog 118 [Value.int .i64 0, S [], S []] := ⟨_, rfl, zv118⟩
theorem fo118_1 : Fo Tryz.prog 118 1 1 := fun a w => by kernel_rfl
theorem fo118_0 : Fo Tryz.prog 118 0 0 := fun a w => by kernel_rfl
theorem fo118_2 : Fo Tryz.prog 118 2 2 := fun a w => by kernel_rfl
theorem bs27 : Bs Tryz.prog 27 118 3 [Value.int .i64 0, S [], S []] := bs_of Tryz.underlying27 (fun w => by kernel_rfl) zv118 rfl rfl (by decide)
theorem bu118 : Bu Tryz.prog 118 [Value.int .i64 0, S [], S []] (fun (i : Nat) => ([(0, 1), (1, 1), (2, 1)] : List (Nat × Nat))[i]?) := bu_of Tryz.underlying118 zv118 rfl (fun w => by kernel_rfl)
theorem el118 : El Tryz.prog 118 3 40 := ⟨_, _, rfl, rfl, by kernel_rfl, by kernel_rfl, by kernel_rfl⟩
theorem zv133 : ∀ w, (zeroValue 133).run Tryz.prog w = .ok (Value.agg #[.int .i64 0, S [], Value.slice none 0 0]) w := fun w => by kernel_rfl
theorem bu133 : Bu Tryz.prog 133 [Value.int .i64 0, S [], Value.slice none 0 0] (fun (i : Nat) => ([(0, 1), (1, 1), (2, 1)] : List (Nat × Nat))[i]?) := bu_of Tryz.underlying133 zv133 rfl (fun w => by kernel_rfl)
theorem zv26 : ∀ w, (zeroValue 26).run Tryz.prog w = .ok (Value.agg #[Value.slice none 0 0]) w := fun w => by kernel_rfl
theorem ze26 : Ze Tryz.prog 26 [Value.slice none 0 0] := ⟨_, rfl, zv26⟩
theorem bu26 : Bu Tryz.prog 26 [Value.slice none 0 0] (fun (i : Nat) => ([(0, 1)] : List (Nat × Nat))[i]?) := bu_of Tryz.underlying26 zv26 rfl (fun w => by kernel_rfl)
theorem ag26 : Ag Tryz.prog 26 1 := fun w => ⟨by kernel_rfl, by kernel_rfl⟩
theorem sc64 : Sc Tryz.prog 64 := fun w => ⟨by kernel_rfl, by kernel_rfl⟩
def z4 := @T.thenN
def z5 := @L.move
def z6 := @T.seq
def z7 := @L.nil
def z8 := @T.region
def z9 := @L.assign
def za := @SubK.nil
def zd := @A.took
def ze := @A.tq
def zf := @L.guardT
def zg := @L.guardF
def zh := @L.load
def zi := @T.ret
def zj := @L.fi
def zm := @T.skip
def zo := @T.cond
def zp := @L.loadA
def zq := @T.thenX
def zr := @T.block
def zt := @L.norm
def zu := @ag38
def zv := @L.known
def zw := @A.backT
def zx := @L.call
def zy := @A.bq
def zz := @T.ret1
def zA := @Tryz.underlying30
def zB := @BP.one
def zC := @Spec.in0
def zD := @T.thenR
def zE := @L.storeA
def zF := @T.norm3
def zG := @L.extract
def zH := @L.addN
def zI := @T.blkN
def zJ := @gd_get
def zK := @T.toJoin
def zL := @L.alloc
def zM := @T.back
def zN := @sz38
def zO := @BP.doneE
def zQ := @L.ltI
def zR := @T.exit
def zS := @T.blkX
def zT := @iC_len
def zU := @map_get
def zV := @L.idxG
def zW := @L.callF
def zX := @T.loop
def zY := @Tryz.underlying5
def zZ := @T.eqv
def y1 := @T.freeze
def y2 := @L.lenSl
def y3 := @T.blkR
def y4 := @T.ownEq
def y5 := @L.pickF
def y6 := @A.done
def y7 := @L.subN
def y8 := @A.take
def y9 := @ag54
def ye := @L.pickT
def yf := @Tryz.underlying38
def yg := @CellsN.ofOwn
def yh := @L.buildSlice
def yi := @L.nilCheck
def yj := @L.eqI
def ym := @T.condF
def yn := @ag165
def yp := @keyT_arr
def yq := @L.box
def yt := @T.regionA
def yu := @T.cutC
def yv := @L.store
def yw := @L.build
def yx := @L.neI
def yy := @Tryz.underlying9
def yz := @Tryz.underlying128
def yA := @L.nilQ
def yB := @L.gtI
def yC := @T.regionQ
def yD := @T.ownRsl
def yE := @Each.cons
def yF := @T.newOwn
def yG := @exs.in
def yH := @T.rslLen2
def yI := @L.idx
def yJ := @Tryz.underlying134
def yK := @A.back
def yL := @Tryz.underlying31
def yM := @L.part
def yN := @T.retAT
def yO := @L.idxA1
def yP := @sz208
def yQ := @BP.agg
def yR := @L.append1
def yS := @L.storeOA
def yT := @sc128
def yU := @L.toOwn
def yV := @sc208
def yW := @T.retN
def yX := @L.notB
def yY := @T.exs
def yZ := @L.ownRsl
def x6 := @L.geI
def x7 := @Tryz.underlying47
def x8 := @CellsN.ofD
def x9 := @Tryz.underlying24
def xe := @T.ret2
def xf := @Tryz.underlying3
def xg := @A.branch
def xh := @Each.nil
def xi := @T.ownLen
def xj := @L.lenStr
def xk := @T.condT
def xm := @Tryz.underlying64
def xn := @A.nilCheck
def xp := @fo212_1
def xq := @L.guardU
def xt := @Tryz.underlying210
def xu := @evs.nil
def xv := @L.callVF
def xw := @L.lookupS
def xx := @L.lookupN
def xy := @L.appendR
def xz := @Tryz.underlying246
def xA := @Tryz.underlying176
def xB := @A.nilCheckP
def xC := @mem_of_look
def xD := @L.sliceArr
def xE := @Tryz.underlying22
def xF := @Tryz.underlying131
def xG := @Tryz.underlying26
def xH := @Tryz.underlying187
def xI := @Tryz.underlying27
theorem SubK.c {X K : Env} (t : Nat) {v : Value} (h : get K t = some v) (k : SubK X K) : SubK ((t, v) :: X) K := SubK.cons h k
end Cv
