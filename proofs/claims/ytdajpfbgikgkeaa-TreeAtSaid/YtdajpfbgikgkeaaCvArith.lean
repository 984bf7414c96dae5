/-
  My own library for walks, a text of it (CvArith): separation logic over the kit's Calls; no statement of this seat stands here.
-/
import Derived.Test.YtdajpfbgikgkeaaCvOps
set_option linter.unusedVariables false
set_option linter.unusedSimpArgs false
set_option linter.unusedSectionVars false
namespace Cv
open Go
theorem bitsAnd_mask (a : Int) (k : Nat) (hk : k ≤ 62) : bitsAnd .i64 a (2 ^ k - 1) = a % (2 ^ k - 1 + 1) := by
  unfold bitsAnd
  have e1 : (BitVec.ofInt IntKind.i64.bits a).toNat = (a % 2 ^ 64).toNat := by simp [IntKind.bits, BitVec.toNat_ofInt]
  have hp : (2 : Int) ^ k - 1 = ((2 ^ k - 1 : Nat) : Int) := by
    have : 1 ≤ 2 ^ k := Nat.one_le_two_pow
    rw [Int.natCast_sub this]; simp
  have hk2 : 2 ^ k ≤ 2 ^ 62 := Nat.pow_le_pow_right (by omega) hk
  have e2 : (BitVec.ofInt IntKind.i64.bits ((2 : Int) ^ k - 1)).toNat = 2 ^ k - 1 := by
    rw [hp]
    simp only [IntKind.bits, BitVec.toNat_ofInt]
    have : ((2 ^ k - 1 : Nat) : Int) % ((2 ^ 64 : Nat) : Int) = ((2 ^ k - 1 : Nat) : Int) := by
      apply Int.emod_eq_of_lt
      · omega
      · have h64 : (2:Nat)^62 < 2^64 := by decide
        omega
    rw [this]; simp
  rw [BitVec.toNat_and, e1, e2, Nat.and_two_pow_sub_one_eq_mod]
  have h3 : ((a % 2 ^ 64).toNat % 2 ^ k : Nat) < 2 ^ k := Nat.mod_lt _ (Nat.two_pow_pos k)
  have h4 : (((a % 2 ^ 64).toNat % 2 ^ k : Nat) : Int) = a % 2 ^ k := by
    rw [Int.natCast_emod, Int.toNat_of_nonneg (Int.emod_nonneg _ (by decide))]
    have : ((2 ^ k : Nat) : Int) = 2 ^ k := by simp
    rw [this]
    apply Int.emod_emod_of_dvd
    have hd := Int.natCast_dvd_natCast.2 (Nat.pow_dvd_pow 2 (show k ≤ 64 from by omega))
    simpa using hd
  rw [h4, show (2:Int)^k - 1 + 1 = 2^k from by omega]
  apply wrap_i64
  · have := Int.emod_nonneg a (b := (2:Int)^k) (by have : (0:Int) < 2^k := Int.pow_pos (by decide); omega); omega
  · rw [← h4]
    have h62 : (2:Nat)^62 = 4611686018427387904 := by decide
    omega
section
variable {P : Program} {σ : World} {n : Nat} {Q : Post} {K : Env} {D M : List Asn} {m : Option (List Asn × List Asn)} {ops : Array Oper} {rest : List Oper} {d : Nat} {ty : TypeId} {pos : String} {aft : Array Edge}
theorem L.andM {x y : Operand} {t t' : TypeId} {a b : Int} {k : Nat} (hd : Nat.blt d n = true) (hx : ev K x = some (.int .i64 a)) (hy : ev K y = some (.int .i64 b)) (hb : b = 2 ^ k - 1) (hk : k ≤ 62) (next : TL m P σ n ops Q rest ((d, .int .i64 (a % (b + 1))) :: K) D M) :
    TL m P σ n ops Q (⟨some d, .binOp .and t x y t', ty, pos, aft, none⟩ :: rest) K D M :=
  L.andI hd hx hy (by subst hb; rw [bitsAnd_mask a k hk]; exact next)
end
end Cv
