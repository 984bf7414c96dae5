/-
  My own library for walks, a text of it (CvWord): separation logic over the kit's Calls; no statement of this seat stands here.
-/
import Derived.Test.YtdajpfbgikgkeaaCvArith
set_option linter.unusedVariables false
set_option linter.unusedSimpArgs false
set_option linter.unusedSectionVars false
namespace Cv
open Go

/-- a uint32 -/
def W (x : BitVec 32) : Value := .int .u32 x.toNat
/-- a byte -/
def Y (b : UInt8) : Value := .int .u8 b.toNat

theorem wrap_u32 (z : Int) : IntKind.u32.wrap z = ((BitVec.ofInt 32 z).toNat : Int) := by
  have e : IntKind.u32.wrap z = z % 2 ^ 32 := by simp [IntKind.wrap, IntKind.signed, IntKind.bits]
  rw [e, BitVec.toNat_ofInt]
  have := Int.emod_nonneg z (b := (2:Int) ^ 32) (by decide)
  omega
theorem wrap_u8 (z : Int) : IntKind.u8.wrap z = ((UInt8.ofNat (z % 256).toNat).toNat : Int) := by
  have e : IntKind.u8.wrap z = z % 2 ^ 8 := by simp [IntKind.wrap, IntKind.signed, IntKind.bits]
  have h1 := Int.emod_nonneg z (b := (256:Int)) (by decide)
  have h2 := Int.emod_lt_of_pos z (b := (256:Int)) (by decide)
  rw [e]
  simp only [UInt8.toNat_ofNat']
  omega
theorem ofInt_toNat (x : BitVec 32) : BitVec.ofInt 32 (x.toNat : Int) = x := by
  simp
section
variable {P : Program} {σ : World} {n : Nat} {Q : Post} {K : Env} {D M : List Asn} {m : Option (List Asn × List Asn)} {ops : Array Oper} {rest : List Oper} {d : Nat} {ty : TypeId} {pos : String} {aft : Array Edge}
variable {x y : Operand} {t t' : TypeId} {a b : BitVec 32}
theorem L.addW (hd : Nat.blt d n = true) (hx : ev K x = some (W a)) (hy : ev K y = some (W b)) (next : TL m P σ n ops Q rest ((d, W (a + b)) :: K) D M) :
    TL m P σ n ops Q (⟨some d, .binOp .add t x y t', ty, pos, aft, none⟩ :: rest) K D M :=
  L.addI hd hx hy (by rw [wrap_u32, BitVec.ofInt_add, ofInt_toNat, ofInt_toNat]; exact next)
theorem L.mulW (hd : Nat.blt d n = true) (hx : ev K x = some (W a)) (hy : ev K y = some (W b)) (next : TL m P σ n ops Q rest ((d, W (a * b)) :: K) D M) :
    TL m P σ n ops Q (⟨some d, .binOp .mul t x y t', ty, pos, aft, none⟩ :: rest) K D M :=
  L.mulI hd hx hy (by rw [wrap_u32, BitVec.ofInt_mul, ofInt_toNat, ofInt_toNat]; exact next)
theorem L.andW (hd : Nat.blt d n = true) (hx : ev K x = some (W a)) (hy : ev K y = some (W b)) (next : TL m P σ n ops Q rest ((d, W (a &&& b)) :: K) D M) :
    TL m P σ n ops Q (⟨some d, .binOp .and t x y t', ty, pos, aft, none⟩ :: rest) K D M :=
  L.andI hd hx hy (by unfold bitsAnd; rw [wrap_u32]; simp only [IntKind.bits, ofInt_toNat]; exact next)
theorem L.orW (hd : Nat.blt d n = true) (hx : ev K x = some (W a)) (hy : ev K y = some (W b)) (next : TL m P σ n ops Q rest ((d, W (a ||| b)) :: K) D M) :
    TL m P σ n ops Q (⟨some d, .binOp .or t x y t', ty, pos, aft, none⟩ :: rest) K D M :=
  L.orI hd hx hy (by unfold bitsOr; rw [wrap_u32]; simp only [IntKind.bits, ofInt_toNat]; exact next)
theorem L.xorW (hd : Nat.blt d n = true) (hx : ev K x = some (W a)) (hy : ev K y = some (W b)) (next : TL m P σ n ops Q rest ((d, W (a ^^^ b)) :: K) D M) :
    TL m P σ n ops Q (⟨some d, .binOp .xor t x y t', ty, pos, aft, none⟩ :: rest) K D M :=
  L.xorI hd hx hy (by unfold bitsXor; rw [wrap_u32]; simp only [IntKind.bits, ofInt_toNat]; exact next)
theorem L.shlW {yk : IntKind} {s : Int} {k : Nat} (hd : Nat.blt d n = true) (hx : ev K x = some (W a)) (hy : ev K y = some (.int yk s)) (hs : s = k) (next : TL m P σ n ops Q rest ((d, W (a <<< k)) :: K) D M) :
    TL m P σ n ops Q (⟨some d, .binOp .shl t x y t', ty, pos, aft, none⟩ :: rest) K D M :=
  L.shlI hd hx hy (by omega) (by
    subst hs
    have e : IntKind.u32.wrap ((a.toNat : Int) * 2 ^ (min (k : Int).toNat IntKind.u32.bits)) = ((a <<< k).toNat : Int) := by
      rw [wrap_u32, BitVec.toNat_shiftLeft, BitVec.toNat_ofInt]
      simp only [IntKind.bits, Int.toNat_natCast, Nat.shiftLeft_eq]
      by_cases hk : k ≤ 32
      · rw [Nat.min_eq_left hk]
        norm_cast
      · rw [Nat.min_eq_right (by omega)]
        have h1 : a.toNat * 2 ^ k % 2 ^ 32 = 0 := by
          apply Nat.mod_eq_zero_of_dvd
          exact Nat.dvd_trans (Nat.pow_dvd_pow 2 (by omega)) (Nat.dvd_mul_left _ _)
        have h2 : ((a.toNat : Int) * 2 ^ 32) % ((2 ^ 32 : Nat) : Int) = 0 := by
          show ((a.toNat : Int) * 4294967296) % 4294967296 = 0
          omega
        rw [h1, h2]; rfl
    rw [e]; exact next)
theorem L.shrW {yk : IntKind} {s : Int} {k : Nat} (hd : Nat.blt d n = true) (hx : ev K x = some (W a)) (hy : ev K y = some (.int yk s)) (hs : s = k) (next : TL m P σ n ops Q rest ((d, W (a >>> k)) :: K) D M) :
    TL m P σ n ops Q (⟨some d, .binOp .shr t x y t', ty, pos, aft, none⟩ :: rest) K D M :=
  L.shrI hd hx hy (by omega) (by
    subst hs
    have e : (a.toNat : Int).fdiv (2 ^ (min (k : Int).toNat IntKind.u32.bits)) = ((a >>> k).toNat : Int) := by
      rw [BitVec.toNat_ushiftRight, Nat.shiftRight_eq_div_pow]
      simp only [IntKind.bits, Int.toNat_natCast]
      rw [Int.fdiv_eq_ediv_of_nonneg _ (Int.le_of_lt (Int.pow_pos (by decide)))]
      have ha := a.isLt
      by_cases hk : k ≤ 32
      · rw [Nat.min_eq_left hk]; norm_cast
      · rw [Nat.min_eq_right (by omega), Nat.div_eq_of_lt (Nat.lt_of_lt_of_le ha (Nat.pow_le_pow_right (by decide) (by omega)))]
        have : (a.toNat : Int) / 2 ^ 32 = ((a.toNat / 2 ^ 32 : Nat) : Int) := by norm_cast
        rw [this, Nat.div_eq_of_lt ha]
    rw [e]; exact next)
theorem L.notW {x : Operand} {t : TypeId} (hd : Nat.blt d n = true) (hx : ev K x = some (W a)) (next : TL m P σ n ops Q rest ((d, W (~~~ a)) :: K) D M) :
    TL m P σ n ops Q (⟨some d, .unOp .xor t x, ty, pos, aft, none⟩ :: rest) K D M :=
  L.pureOp hd (fun ρ w s => by
    have e : IntKind.u32.wrap (((BitVec.ofInt IntKind.u32.bits IntKind.u32.max) ^^^ (BitVec.ofInt IntKind.u32.bits (a.toNat : Int))).toNat : Int) = ((~~~ a).toNat : Int) := by
      rw [wrap_u32]
      simp only [IntKind.bits, ofInt_toNat]
      congr 2
    have h1 := s hx
    simp only [execOp, h1, W, Op.unary, IntKind.signed, Op.intBits]
    simp only [e, Bool.false_eq_true, if_false]
    rfl) next
end
end Cv
