/-
  The walks: the plain law of comparing trees.
-/
import Derived.Test.YtcilkdnbbebjgaaGreatM05
import Derived.Test.YtcilkdnbbebjgaaGreatProg
import Derived.KernelRfl
set_option linter.unusedVariables false
set_option linter.unusedSimpArgs false
set_option linter.unusedSectionVars false
set_option maxRecDepth 10000
namespace Cv
open Go Go.Proofs
/-! ## the order of trees -/
/-! ### the laws -/
/-! ### 0 just of the same -/
theorem count_mem : ∀ {ks : List Tr} {y : Tr}, y ∈ ks → y.count ≤ countL ks
  | x :: xs, y, h => by
    simp only [countL]
    rcases List.mem_cons.1 h with rfl | h
    · omega
    · have := count_mem h; omega
/-! ### signs of one byte -/
theorem enc_ascii {r : Nat} {l : List UInt8} (hr : r < 128) (h : EncOf r l) : l = [UInt8.ofNat r] := by
  have hv : Utf8.valid (r : Int) = true := by simp [Utf8.valid]; omega
  have e : Utf8.encode (r : Int) = ⟨#[UInt8.ofNat r]⟩ := by
    unfold Utf8.encode
    rw [hv]
    simp only [if_true, Int.toNat_natCast]
    rw [if_pos (by omega)]
  have h2 : ByteArray.mk l.toArray = ⟨#[UInt8.ofNat r]⟩ := h.trans e
  have h3 : (ByteArray.mk l.toArray).data.toList = (ByteArray.mk #[UInt8.ofNat r]).data.toList := by rw [h2]
  exact h3
/-- an entry of TreeOf -/
def Sh (j : Nat) (z : ET) : Prop := ∃ m, m.length ≤ 10 ∧ z = (.mk m 1 [UInt8.ofNat (97 + j)] [], none, 0, 0)
@[reducible] def shE (n : List UInt8) (i : Nat) : ET := (.mk (n.take 10) 1 [UInt8.ofNat (97 + i)] [], none, 0, 0)
theorem Sh.mk (n : List UInt8) (i : Nat) : Sh i (shE n i) := ⟨n.take 10, by rw [List.length_take]; omega, rfl⟩
def ShL (acc : List ET) : Prop := ∀ j z, acc[j]? = some z → Sh j z
theorem ShL.nil : ShL [] := fun j z h => by simp at h
theorem ShL.snoc {acc : List ET} {z : ET} (h : ShL acc) (hz : Sh acc.length z) : ShL (acc ++ [z]) := fun j y hy => by
  by_cases hj : j < acc.length
  · rw [List.getElem?_append_left hj] at hy; exact h j y hy
  · rw [List.getElem?_append_right (by omega)] at hy
    have : j - acc.length = 0 := by
      have := (List.getElem?_eq_some_iff.1 hy).1
      simp at this; omega
    rw [this] at hy
    simp at hy
    subst hy
    rwa [show j = acc.length by omega]
theorem i32_wrap {j : Int} (h : 0 ≤ j ∧ j ≤ 200) : IntKind.i32.wrap j = j := by rw [IntKind.wrap_i32]; omega
/-! ### TreeWide -/
/-! ### letters -/
def letF (s : List UInt8) : List UInt8 := 110 :: (s.take 10).map (fun c => UInt8.ofNat (97 + c.toNat % 26))
theorem letF_len (s : List UInt8) : (letF s).length ≤ 11 := by simp [letF]; omega
theorem u8_let (c : UInt8) : IntKind.u8.wrap (97 + (c.toNat : Int).tmod 26) = ((97 + c.toNat % 26 : Nat) : Int) := by
  have h := c.toNat_lt
  rw [Int.tmod_eq_emod_of_nonneg (by omega)]
  have e : (97 : Int) + (c.toNat : Int) % 26 = ((97 + c.toNat % 26 : Nat) : Int) := by omega
  rw [e]
  unfold IntKind.wrap
  simp only [IntKind.bits, IntKind.signed]
  simp
  omega
theorem letF_step {s : List UInt8} {i : Nat} {c : UInt8} (h : s[i]? = some c) : (110 :: (s.take i).map (fun c => UInt8.ofNat (97 + c.toNat % 26)) ++ [UInt8.ofNat (97 + c.toNat % 26)] : List UInt8) = 110 :: (s.take (i + 1)).map (fun c => UInt8.ofNat (97 + c.toNat % 26)) := by
  rw [List.take_add_one, h]; simp


end Cv
