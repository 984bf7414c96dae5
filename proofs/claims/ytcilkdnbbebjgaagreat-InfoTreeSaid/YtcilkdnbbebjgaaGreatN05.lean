/-
  The walks: the plain law of comparing trees.
-/
import Derived.Test.YtcilkdnbbebjgaaGreatM05
import Derived.Test.YtcilkdnbbebjgaaGreatProg
import Derived.KernelRfl
set_option linter.unusedVariables false
set_option linter.unusedSimpArgs false
set_option linter.unusedSectionVars false
set_option maxRecDepth 10000
namespace Cv
open Go Go.Proofs
/-! ## the order of trees -/
def orF : List Int → Int
  | [] => 0
  | x :: xs => if x ≠ 0 then x else orF xs
def cmpI (x y : Int) : Int := if x < y then -1 else if y < x then 1 else 0
theorem orF_drop {xs : List Int} {k : Nat} (h : k < xs.length) : orF (xs.drop k) = if gd xs k ≠ 0 then gd xs k else orF (xs.drop (k + 1)) := by
  rw [List.drop_eq_getElem_cons h]
  simp [orF, gd, h]
def lexI (c d : Int) : Int := if c ≠ 0 then c else d
theorem or2 (c d : Int) : orF [c, d] = lexI c d := by
  unfold lexI; simp only [orF]
  by_cases h : c = 0
  · by_cases h2 : d = 0 <;> simp [h, h2]
  · simp [h]
mutual
def compT : Tr → Tr → Int
  | .mk _ k t ks, b => lexI (lexI (cmpI k b.k) (cmpB t b.t)) (compL ks b.ks)
def compL : List Tr → List Tr → Int
  | [], [] => 0
  | [], _ :: _ => -1
  | _ :: _, [] => 1
  | x :: xs, y :: ys => lexI (lexI (cmpB x.n y.n) (compT x y)) (compL xs ys)
end
theorem compT_eq (a b : Tr) : compT a b = lexI (lexI (cmpI a.k b.k) (cmpB a.t b.t)) (compL a.ks b.ks) := by cases a; rw [compT]; rfl
theorem compL_nil : compL [] [] = 0 := by unfold compL; rfl
theorem compL_nc (y : Tr) (ys : List Tr) : compL [] (y :: ys) = -1 := by unfold compL; rfl
theorem compL_cn (x : Tr) (xs : List Tr) : compL (x :: xs) [] = 1 := by unfold compL; rfl
theorem compL_cc (x y : Tr) (xs ys : List Tr) : compL (x :: xs) (y :: ys) = lexI (lexI (cmpB x.n y.n) (compT x y)) (compL xs ys) := by rw [compL.eq_def]
theorem compL_step {xs ys : List Tr} {i : Nat} {x y : Tr} (hx : xs[i]? = some x) (hy : ys[i]? = some y) : compL (xs.drop i) (ys.drop i) = lexI (lexI (cmpB x.n y.n) (compT x y)) (compL (xs.drop (i + 1)) (ys.drop (i + 1))) := by
  have h1 := (List.getElem?_eq_some_iff.1 hx).1
  have h2 := (List.getElem?_eq_some_iff.1 hy).1
  have e1 : xs.drop i = x :: xs.drop (i + 1) := by
    rw [List.drop_eq_getElem_cons h1]; congr 1; exact (List.getElem?_eq_some_iff.1 hx).2
  have e2 : ys.drop i = y :: ys.drop (i + 1) := by
    rw [List.drop_eq_getElem_cons h2]; congr 1; exact (List.getElem?_eq_some_iff.1 hy).2
  rw [e1, e2, compL_cc]
theorem compL_long {xs ys : List Tr} {i : Nat} (hx : i < xs.length) (hy : ys.length ≤ i) : compL (xs.drop i) (ys.drop i) = 1 := by
  rw [List.drop_eq_getElem_cons hx, List.drop_of_length_le hy, compL_cn]
theorem compL_end {xs ys : List Tr} {i : Nat} (hx : xs.length ≤ i) : compL (xs.drop i) (ys.drop i) = if i < ys.length then -1 else 0 := by
  rw [List.drop_of_length_le hx]
  by_cases h : i < ys.length
  · rw [if_pos h, List.drop_eq_getElem_cons h, compL_nc]
  · rw [if_neg h, List.drop_of_length_le (by omega), compL_nil]
/-! ### the laws -/
theorem lexI_z {c d : Int} (h : c = 0) : lexI c d = d := by unfold lexI; rw [if_neg (by simpa using h)]
theorem lexI_nz {c d : Int} (h : ¬ c = 0) : lexI c d = c := by unfold lexI; rw [if_pos h]
/-! ### 0 just of the same -/
theorem lexI_zero {c d : Int} : lexI c d = 0 ↔ c = 0 ∧ d = 0 := by unfold lexI; split <;> omega
theorem cmpI_zero {a b : Int} : cmpI a b = 0 ↔ a = b := by unfold cmpI; split <;> (try split) <;> omega
theorem cmpB_zero {a b : List UInt8} : cmpB a b = 0 ↔ a = b := ⟨cmpB_eq, fun e => by rw [e]; exact cmpB_self b⟩
theorem compL_zero (xs : List Tr) (h : ∀ x ∈ xs, ∀ y, compT x y = 0 ↔ x.k = y.k ∧ x.t = y.t ∧ x.ks = y.ks) : ∀ ys, compL xs ys = 0 ↔ xs = ys := by
  induction xs with
  | nil => intro ys; cases ys with
    | nil => simp [compL_nil]
    | cons y ys => simp [compL_nc]
  | cons x xs ih => intro ys; cases ys with
    | nil => simp [compL_cn]
    | cons y ys =>
      rw [compL_cc, lexI_zero, lexI_zero, cmpB_zero, h x (by simp), ih (fun z hz => h z (by simp [hz]))]
      constructor
      · rintro ⟨⟨h1, h2, h3, h4⟩, h5⟩
        rw [h5, x.eta, h1, h2, h3, h4, ← y.eta]
      · intro e
        injection e with e1 e2
        subst e1; subst e2
        exact ⟨⟨rfl, rfl, rfl, rfl⟩, rfl⟩
theorem compT_zero (x : Tr) : ∀ y, compT x y = 0 ↔ x.k = y.k ∧ x.t = y.t ∧ x.ks = y.ks := by
  refine Tr.ind (p := fun x => ∀ y, compT x y = 0 ↔ x.k = y.k ∧ x.t = y.t ∧ x.ks = y.ks) (fun x ih y => ?_) x
  rw [compT_eq, lexI_zero, lexI_zero, cmpI_zero, cmpB_zero, compL_zero x.ks ih, and_assoc]
theorem count_mem : ∀ {ks : List Tr} {y : Tr}, y ∈ ks → y.count ≤ countL ks
  | x :: xs, y, h => by
    simp only [countL]
    rcases List.mem_cons.1 h with rfl | h
    · omega
    · have := count_mem h; omega
/-! ### signs of one byte -/
theorem enc_ascii {r : Nat} {l : List UInt8} (hr : r < 128) (h : EncOf r l) : l = [UInt8.ofNat r] := by
  have hv : Utf8.valid (r : Int) = true := by simp [Utf8.valid]; omega
  have e : Utf8.encode (r : Int) = ⟨#[UInt8.ofNat r]⟩ := by
    unfold Utf8.encode
    rw [hv]
    simp only [if_true, Int.toNat_natCast]
    rw [if_pos (by omega)]
  have h2 : ByteArray.mk l.toArray = ⟨#[UInt8.ofNat r]⟩ := h.trans e
  have h3 : (ByteArray.mk l.toArray).data.toList = (ByteArray.mk #[UInt8.ofNat r]).data.toList := by rw [h2]
  exact h3
/-- an entry of TreeOf -/
def Sh (j : Nat) (z : ET) : Prop := ∃ m, m.length ≤ 10 ∧ z = (.mk m 1 [UInt8.ofNat (97 + j)] [], none, 0, 0)
@[reducible] def shE (n : List UInt8) (i : Nat) : ET := (.mk (n.take 10) 1 [UInt8.ofNat (97 + i)] [], none, 0, 0)
theorem Sh.mk (n : List UInt8) (i : Nat) : Sh i (shE n i) := ⟨n.take 10, by rw [List.length_take]; omega, rfl⟩
def ShL (acc : List ET) : Prop := ∀ j z, acc[j]? = some z → Sh j z
theorem ShL.nil : ShL [] := fun j z h => by simp at h
theorem ShL.snoc {acc : List ET} {z : ET} (h : ShL acc) (hz : Sh acc.length z) : ShL (acc ++ [z]) := fun j y hy => by
  by_cases hj : j < acc.length
  · rw [List.getElem?_append_left hj] at hy; exact h j y hy
  · rw [List.getElem?_append_right (by omega)] at hy
    have : j - acc.length = 0 := by
      have := (List.getElem?_eq_some_iff.1 hy).1
      simp at this; omega
    rw [this] at hy
    simp at hy
    subst hy
    rwa [show j = acc.length by omega]
theorem i32_wrap {j : Int} (h : 0 ≤ j ∧ j ≤ 200) : IntKind.i32.wrap j = j := by rw [IntKind.wrap_i32]; omega
/-! ### TreeWide -/
/-! ### letters -/
def letF (s : List UInt8) : List UInt8 := 110 :: (s.take 10).map (fun c => UInt8.ofNat (97 + c.toNat % 26))
theorem letF_len (s : List UInt8) : (letF s).length ≤ 11 := by simp [letF]; omega
theorem u8_let (c : UInt8) : IntKind.u8.wrap (97 + (c.toNat : Int).tmod 26) = ((97 + c.toNat % 26 : Nat) : Int) := by
  have h := c.toNat_lt
  rw [Int.tmod_eq_emod_of_nonneg (by omega)]
  have e : (97 : Int) + (c.toNat : Int) % 26 = ((97 + c.toNat % 26 : Nat) : Int) := by omega
  rw [e]
  unfold IntKind.wrap
  simp only [IntKind.bits, IntKind.signed]
  simp
  omega
theorem letF_step {s : List UInt8} {i : Nat} {c : UInt8} (h : s[i]? = some c) : (110 :: (s.take i).map (fun c => UInt8.ofNat (97 + c.toNat % 26)) ++ [UInt8.ofNat (97 + c.toNat % 26)] : List UInt8) = 110 :: (s.take (i + 1)).map (fun c => UInt8.ofNat (97 + c.toNat % 26)) := by
  rw [List.take_add_one, h]; simp


end Cv
