/-
  The walks: numbers, texts, trees as bytes.
-/
import Derived.Test.YtahkbpiinbepcaaGreatV05
import Derived.Test.YtahkbpiinbepcaaGreatN05
import Derived.Test.YtahkbpiinbepcaaGreatProg
import Derived.KernelRfl
set_option linter.unusedVariables false
set_option linter.unusedSimpArgs false
set_option linter.unusedSectionVars false
set_option maxRecDepth 10000
namespace Cv
open Go Go.Proofs
/-! ## numbers and texts as bytes -/
def beB (n : Nat) : List UInt8 := if h : n = 0 then [] else beB (n / 256) ++ [UInt8.ofNat (n % 256)]
termination_by n
decreasing_by omega
theorem beB_0 : beB 0 = [] := by rw [beB, dif_pos rfl]
theorem beB_pos {n : Nat} (h : 0 < n) : beB n = beB (n / 256) ++ [UInt8.ofNat (n % 256)] := by rw [beB, dif_neg (by omega)]
theorem beB_len : ∀ (k n : Nat), n < 256 ^ k → (beB n).length ≤ k
  | 0, n, h => by have : n = 0 := by simpa using h
                  rw [this, beB_0]; simp
  | k + 1, n, h => by
    by_cases hn : n = 0
    · rw [hn, beB_0]; simp
    · rw [beB_pos (by omega), List.length_append]
      have := beB_len k (n / 256) (by rw [Nat.pow_succ] at h; exact Nat.div_lt_of_lt_mul (by rw [Nat.mul_comm]; exact h))
      simp; omega
def numB (n : Nat) : List UInt8 := UInt8.ofNat (beB n).length :: beB n
def strB (s : List UInt8) : List UInt8 := numB s.length ++ s
theorem numB_len {n : Nat} (h : n < 18446744073709551616) : (numB n).length ≤ 9 := by
  have := beB_len 8 n (by simpa using h)
  simp [numB]; omega
theorem be_step {n m : Nat} {acc : List UInt8} (h : beB n = beB m ++ acc) (hm : 0 < m) : beB n = beB (m / 256) ++ (UInt8.ofNat (m % 256) :: acc) := by rw [h, beB_pos hm]; simp
theorem be_bound {m l : Nat} (h : m < 256 ^ (8 - l)) (hm : 0 < m) : l < 8 ∧ m / 256 < 256 ^ (8 - (1 + l)) := by
  have hl : l < 8 := by
    by_cases h8 : l < 8
    · exact h8
    · rw [show 8 - l = 0 from by omega] at h; simp at h; omega
  refine ⟨hl, ?_⟩
  rw [show 8 - l = (8 - (1 + l)) + 1 from by omega, Nat.pow_succ] at h
  exact Nat.div_lt_of_lt_mul (by rw [Nat.mul_comm]; exact h)
theorem y_byte (m : Nat) : Y (UInt8.ofNat (((m : Int)) % 256).toNat) = Y (UInt8.ofNat (m % 256)) := congrArg Y (congrArg UInt8.ofNat (by omega))
theorem y_byte' {m : Nat} (h : m < 256) : Y (UInt8.ofNat (((m : Int)) % 256).toNat) = Y (UInt8.ofNat m) := congrArg Y (congrArg UInt8.ofNat (by omega))
theorem shr8 (m : Nat) : Int.fdiv (m : Int) (2 ^ (min (8 : Int).toNat IntKind.u64.bits)) = ((m / 256 : Nat) : Int) := by
  show Int.fdiv (m : Int) 256 = _
  rw [Int.fdiv_eq_ediv_of_nonneg _ (by omega)]; omega
/-! ## a tree's archive -/
mutual
def putT : Tr → List UInt8
  | .mk _ k t ks => numB k.toNat ++ (if k ≠ 4 then strB t else numB ks.length ++ putL ks)
def putL : List Tr → List UInt8
  | [] => []
  | y :: ys => strB y.n ++ putT y ++ putL ys
end
theorem putT_eq (x : Tr) : putT x = numB x.k.toNat ++ (if x.k ≠ 4 then strB x.t else numB x.ks.length ++ putL x.ks) := by cases x; rw [putT]; rfl
theorem putL_step {ks : List Tr} {i : Nat} {y : Tr} (h : ks[i]? = some y) : putL (ks.take (i + 1)) = putL (ks.take i) ++ (strB y.n ++ putT y) := by
  have app : ∀ (xs ys : List Tr), putL (xs ++ ys) = putL xs ++ putL ys := by
    intro xs
    induction xs with
    | nil => intro ys; simp [putL]
    | cons x xs ih => intro ys; rw [List.cons_append, putL, putL, ih]; simp
  rw [← take_snoc h, app]
  simp [putL]
theorem putL_le {ks : List Tr} {i : Nat} {y : Tr} (h : ks[i]? = some y) : (putL (ks.take i)).length + (strB y.n).length + (putT y).length ≤ (putL ks).length := by
  have app : ∀ (xs ys : List Tr), putL (xs ++ ys) = putL xs ++ putL ys := by
    intro xs
    induction xs with
    | nil => intro ys; simp [putL]
    | cons x xs ih => intro ys; rw [List.cons_append, putL, putL, ih]; simp
  have e : putL ks = putL (ks.take (i + 1)) ++ putL (ks.drop (i + 1)) := by rw [← app, List.take_append_drop]
  rw [e, putL_step h]; simp; omega
theorem strB_len {s : List UInt8} (h : s.length < 18446744073709551616) : (strB s).length ≤ 9 + s.length := by
  have := numB_len h
  simp [strB]; omega
theorem own0_ok {k : Int} {t : List UInt8} {f : Bool} {d : Nat} (h : own0 k t f d = 0) : (1 ≤ k ∧ k ≤ 4) ∧ (k ≠ 4 → f = false) ∧ (k = 4 → t = []) ∧ t.length ≤ 8192 ∧ d ≤ 8 ∧ (k = 3 → t ≠ [] ∧ t.length ≤ 24 ∧ (0 : UInt8) ∉ t) := by
  unfold own0 at h
  split at h
  · simp at h
  · rename_i h1
    split at h
    · simp at h
    · rename_i h2
      split at h
      · simp at h
      · rename_i h3
        split at h
        · simp at h
        · rename_i h4
          refine ⟨by omega, fun hk => ?_, fun hk => ?_, by omega, by omega, fun hk => ⟨fun q => h2 (.inr (.inr ⟨hk, q⟩)), Nat.le_of_not_lt fun q => h3 ⟨hk, .inl q⟩, fun q => h3 ⟨hk, .inr q⟩⟩⟩
          · cases f with
            | false => rfl
            | true => exact absurd (.inl ⟨hk, rfl⟩) h2
          · by_cases ht : t = []
            · exact ht
            · exact absurd (.inr (.inl ⟨hk, ht⟩)) h2
theorem chkL_ok : ∀ (ks : List Tr) (d : Nat) (p : Option (List UInt8)) (n : Nat), (chkL ks d p n).2 = 0 → ∀ y ∈ ks, nameB y.n = true ∧ (chkT y d).2 = 0
  | [], d, p, n, h => fun y hy => by cases hy
  | y :: ys, d, p, n, h => by
    rw [chkL] at h
    split at h
    · simp at h
    · rename_i h1
      split at h
      · rename_i h2; exact absurd h h2
      · rename_i h2
        have ih := chkL_ok ys d (some y.n) _ h
        intro z hz
        rcases List.mem_cons.1 hz with rfl | hz
        · refine ⟨?_, by simpa using h2⟩
          cases hb : nameB z.n with
          | true => rfl
          | false => exact absurd (.inl hb) h1
        · exact ih z hz
theorem chkT_ok {x : Tr} {d : Nat} (h : (chkT x d).2 = 0) : own0 x.k x.t (decide (0 < x.ks.length)) d = 0 ∧ ∀ y ∈ x.ks, nameB y.n = true ∧ (chkT y (d + 1)).2 = 0 := by
  rw [chkT_eq] at h
  split at h
  · rename_i h1; exact absurd h h1
  · rename_i h1; exact ⟨by simpa using h1, chkL_ok _ _ _ _ h⟩
theorem nameB_len {s : List UInt8} (h : nameB s = true) : s.length ≤ 24 := by unfold nameB at h; simp at h; omega
theorem putT_len (x : Tr) : ∀ d, (chkT x d).2 = 0 → x.count ≤ 900000 → (putT x).length + 40 ≤ 9000 * x.count := by
  refine Tr.ind (p := fun x => ∀ d, (chkT x d).2 = 0 → x.count ≤ 900000 → (putT x).length + 40 ≤ 9000 * x.count) (fun x ih d h hc => ?_) x
  obtain ⟨h0, h1⟩ := chkT_ok h
  obtain ⟨hk, _, _, ht, _, _⟩ := own0_ok h0
  have hce := x.count_eq
  have key : ∀ ks : List Tr, (∀ y ∈ ks, y ∈ x.ks) → (putL ks).length ≤ 9000 * countL ks := by
    intro ks
    induction ks with
    | nil => intro _; simp [putL]
    | cons y ys ihy =>
      intro hm
      have k1 := ihy (fun z hz => hm z (by simp [hz]))
      have hy : y ∈ x.ks := hm y (by simp)
      have hcy : y.count ≤ countL x.ks := count_mem hy
      obtain ⟨hn, hcy2⟩ := h1 y hy
      have k2 := ih y hy (d + 1) hcy2 (by omega)
      have k3 := nameB_len hn
      have k4 := strB_len (s := y.n) (by omega)
      simp only [putL, List.length_append, countL]
      omega
  rw [putT_eq, List.length_append]
  have n1 := numB_len (n := x.k.toNat) (by omega)
  split
  · have := strB_len (s := x.t) (by omega)
    omega
  · have := key x.ks (fun y hy => hy)
    have hl := count_le_len x.ks
    have := numB_len (n := x.ks.length) (by omega)
    rw [List.length_append]
    omega
/-! ## the archive, as the document tells it -/
def mark : List UInt8 := [99, 114, 118, 1]
def wrE (x : Tr) : Int := if chkE x ≠ 0 then chkE x else if 32768 < 4 + (putT x).length then 5 else 0
def wrS (x : Tr) : List UInt8 := if chkE x = 0 ∧ 4 + (putT x).length ≤ 32768 then mark ++ putT x else []
theorem wr_bad {x : Tr} (h : chkE x ≠ 0) : wrS x = [] ∧ wrE x = chkE x := ⟨by unfold wrS; rw [if_neg (fun q => h q.1)], by unfold wrE; rw [if_pos h]⟩
theorem wr_big {x : Tr} (h : chkE x = 0) (k : 32768 < 4 + (putT x).length) : wrS x = [] ∧ wrE x = 5 := ⟨by unfold wrS; rw [if_neg (fun q => by omega)], by unfold wrE; rw [if_neg (fun q => q h), if_pos k]⟩
theorem wr_ok {x : Tr} (h : chkE x = 0) (k : ¬ 32768 < 4 + (putT x).length) : wrS x = mark ++ putT x ∧ wrE x = 0 := ⟨by unfold wrS; rw [if_pos ⟨h, by omega⟩], by unfold wrE; rw [if_neg (fun q => q h), if_neg k]⟩
end Cv
set_option maxRecDepth 10000
namespace Cv
open Go Go.Proofs
/-! ## bytes read -/
structure Bl where
  left : List UInt8
  err : Int
@[reducible] def blR (b : Bl) : List Value := [S b.left, .int .i64 b.err]
def failB (b : Bl) (e : Int) : Bl := if b.err = 0 then ⟨[], e⟩ else b
def bytB (b : Bl) (n : Int) : List UInt8 × Bl := if b.err ≠ 0 then ([], b) else if n < 0 ∨ (b.left.length : Int) < n then ([], ⟨[], 1⟩) else (b.left.take n.toNat, ⟨b.left.drop n.toNat, 0⟩)
def beV (s : List UInt8) : Nat := s.foldl (fun v c => v * 256 + c.toNat) 0
def numR (b : Bl) : Nat × Bl :=
  if (bytB b 1).2.err ≠ 0 then (0, (bytB b 1).2)
  else if 8 < ((bytB b 1).1.getD 0 0).toNat then (0, ⟨[], 2⟩)
  else if (bytB (bytB b 1).2 ((bytB b 1).1.getD 0 0).toNat).2.err ≠ 0 then (0, (bytB (bytB b 1).2 ((bytB b 1).1.getD 0 0).toNat).2)
  else if (bytB (bytB b 1).2 ((bytB b 1).1.getD 0 0).toNat).1 ≠ [] ∧ (bytB (bytB b 1).2 ((bytB b 1).1.getD 0 0).toNat).1.getD 0 0 = 0 then (0, ⟨[], 2⟩)
  else (beV (bytB (bytB b 1).2 ((bytB b 1).1.getD 0 0).toNat).1, (bytB (bytB b 1).2 ((bytB b 1).1.getD 0 0).toNat).2)
def intR (b : Bl) (top : Nat) : Nat × Bl := if (numR b).2.err ≠ 0 then (0, (numR b).2) else if top < (numR b).1 then (0, ⟨[], 5⟩) else numR b
def closeE (b : Bl) : Int := if b.err = 0 ∧ b.left ≠ [] then 2 else b.err
theorem byt_bad {b : Bl} {n : Int} (h : b.err ≠ 0) : bytB b n = ([], b) := by unfold bytB; rw [if_pos h]
theorem byt_out {b : Bl} {n : Int} (h : b.err = 0) (k : n < 0 ∨ (b.left.length : Int) < n) : bytB b n = ([], ⟨[], 1⟩) := by unfold bytB; rw [if_neg (fun q => q h), if_pos k]
theorem byt_ok {b : Bl} {n : Int} (h : b.err = 0) (k : ¬ (n < 0 ∨ (b.left.length : Int) < n)) : bytB b n = (b.left.take n.toNat, ⟨b.left.drop n.toNat, 0⟩) := by unfold bytB; rw [if_neg (fun q => q h), if_neg k]
theorem byt_len {b : Bl} {n : Int} (hn : 0 ≤ n) (h : (bytB b n).2.err = 0) : ((bytB b n).1.length : Int) = n ∧ b.err = 0 := by
  unfold bytB at h ⊢
  split at h
  · rename_i h1; exact absurd h h1
  · rename_i h1
    split at h
    · cases h
    · rename_i h2
      rw [if_neg h1, if_neg h2]
      simp only [List.length_take]
      omega
theorem beV_snoc (s : List UInt8) (c : UInt8) : beV (s ++ [c]) = beV s * 256 + c.toNat := by unfold beV; rw [List.foldl_append]; rfl
theorem beV_lt : ∀ (k : Nat) (s : List UInt8), s.length ≤ k → beV s < 256 ^ s.length
  | 0, s, h => by have : s = [] := List.length_eq_zero_iff.1 (by omega); subst this; decide
  | k + 1, s, h => by
    by_cases hs : s = []
    · subst hs; decide
    · have e := List.dropLast_concat_getLast hs
      obtain ⟨t, c, rfl⟩ : ∃ t c, s = t ++ [c] := ⟨_, _, e.symm⟩
      rw [List.length_append] at h
      have := beV_lt k t (by simp at h; omega)
      have hc := c.toNat_lt
      rw [beV_snoc, List.length_append]
      simp only [List.length_cons, List.length_nil, Nat.zero_add, Nat.pow_succ]
      omega
theorem beV_8 {s : List UInt8} {k : Nat} (h : s.length ≤ k) (hk : k ≤ 7) : beV s < 72057594037927936 := by
  have := beV_lt _ s (Nat.le_refl _)
  have h2 : 256 ^ s.length ≤ 256 ^ 7 := Nat.pow_le_pow_right (by decide) (by omega)
  omega
theorem beV_64 {s : List UInt8} (h : s.length ≤ 8) : beV s < 18446744073709551616 := by
  have := beV_lt _ s (Nat.le_refl _)
  have h2 : 256 ^ s.length ≤ 256 ^ 8 := Nat.pow_le_pow_right (by decide) (by omega)
  omega
theorem num_1 {b : Bl} (h : (bytB b 1).2.err ≠ 0) : numR b = (0, (bytB b 1).2) := by unfold numR; rw [if_pos h]
theorem num_2 {b : Bl} (h : (bytB b 1).2.err = 0) (h2 : 8 < ((bytB b 1).1.getD 0 0).toNat) : numR b = (0, ⟨[], 2⟩) := by unfold numR; rw [if_neg (fun q => q h), if_pos h2]
theorem num_3 {b : Bl} (h : (bytB b 1).2.err = 0) (h2 : ¬ 8 < ((bytB b 1).1.getD 0 0).toNat) (h3 : (bytB (bytB b 1).2 ((bytB b 1).1.getD 0 0).toNat).2.err ≠ 0) : numR b = (0, (bytB (bytB b 1).2 ((bytB b 1).1.getD 0 0).toNat).2) := by unfold numR; rw [if_neg (fun q => q h), if_neg h2, if_pos h3]
theorem num_4 {b : Bl} (h : (bytB b 1).2.err = 0) (h2 : ¬ 8 < ((bytB b 1).1.getD 0 0).toNat) (h3 : (bytB (bytB b 1).2 ((bytB b 1).1.getD 0 0).toNat).2.err = 0) (h4 : (bytB (bytB b 1).2 ((bytB b 1).1.getD 0 0).toNat).1 ≠ [] ∧ (bytB (bytB b 1).2 ((bytB b 1).1.getD 0 0).toNat).1.getD 0 0 = 0) : numR b = (0, ⟨[], 2⟩) := by unfold numR; rw [if_neg (fun q => q h), if_neg h2, if_neg (fun q => q h3), if_pos h4]
theorem num_5 {b : Bl} (h : (bytB b 1).2.err = 0) (h2 : ¬ 8 < ((bytB b 1).1.getD 0 0).toNat) (h3 : (bytB (bytB b 1).2 ((bytB b 1).1.getD 0 0).toNat).2.err = 0) (h4 : ¬ ((bytB (bytB b 1).2 ((bytB b 1).1.getD 0 0).toNat).1 ≠ [] ∧ (bytB (bytB b 1).2 ((bytB b 1).1.getD 0 0).toNat).1.getD 0 0 = 0)) : numR b = (beV (bytB (bytB b 1).2 ((bytB b 1).1.getD 0 0).toNat).1, (bytB (bytB b 1).2 ((bytB b 1).1.getD 0 0).toNat).2) := by unfold numR; rw [if_neg (fun q => q h), if_neg h2, if_neg (fun q => q h3), if_neg h4]
theorem int_1 {b : Bl} {top : Nat} (h : (numR b).2.err ≠ 0) : intR b top = (0, (numR b).2) := by unfold intR; rw [if_pos h]
theorem int_2 {b : Bl} {top : Nat} (h : (numR b).2.err = 0) (k : top < (numR b).1) : intR b top = (0, ⟨[], 5⟩) := by unfold intR; rw [if_neg (fun q => q h), if_pos k]
theorem int_3 {b : Bl} {top : Nat} (h : (numR b).2.err = 0) (k : ¬ top < (numR b).1) : intR b top = numR b := by unfold intR; rw [if_neg (fun q => q h), if_neg k]
theorem int_le (b : Bl) (top : Nat) : (intR b top).1 ≤ top := by
  unfold intR; split
  · simp
  · split
    · simp
    · omega
theorem num_64 (b : Bl) : (numR b).1 < 18446744073709551616 := by
  unfold numR
  split
  · show (0 : Nat) < 18446744073709551616; decide
  · split
    · show (0 : Nat) < 18446744073709551616; decide
    · rename_i h2
      split
      · show (0 : Nat) < 18446744073709551616; decide
      · rename_i h3
        split
        · show (0 : Nat) < 18446744073709551616; decide
        · refine beV_64 ?_
          have := (byt_len (b := (bytB b 1).2) (n := ((bytB b 1).1.getD 0 0).toNat) (by omega) (by simpa using h3)).1
          omega
theorem or_byte (v c : Nat) (h : c < 256) : (v * 256) ||| c = v * 256 + c := by
  have := Nat.two_pow_add_eq_or_of_lt (i := 8) (b := c) (by simpa using h) v
  rw [Nat.mul_comm, ← this]
theorem bitsOr_u64 {a b : Nat} (ha : a < 18446744073709551616) (hb : b < 18446744073709551616) : bitsOr .u64 (a : Int) (b : Int) = ((a ||| b : Nat) : Int) := by
  unfold bitsOr
  have e : ∀ c : Nat, c < 18446744073709551616 → (BitVec.ofInt IntKind.u64.bits (c : Int)).toNat = c := fun c hc => by
    simp only [IntKind.bits, BitVec.toNat_ofInt]
    have : ((c : Int) % ((2 ^ 64 : Nat) : Int)) = c := Int.emod_eq_of_lt (by omega) (by rw [show ((2 ^ 64 : Nat) : Int) = 18446744073709551616 from by decide]; omega)
    rw [this]; simp
  rw [BitVec.toNat_or, e a ha, e b hb]
  refine wrap_u64 (by omega) ?_
  have := Nat.or_lt_two_pow (n := 64) (x := a) (y := b) (by simpa using ha) (by simpa using hb)
  omega
theorem shl8 {v : Nat} (h : v < 72057594037927936) : IntKind.u64.wrap ((v : Int) * 2 ^ (min (8 : Int).toNat IntKind.u64.bits)) = ((v * 256 : Nat) : Int) := by
  show IntKind.u64.wrap ((v : Int) * 256) = _
  rw [wrap_u64 (by omega) (by omega)]; omega
theorem byt_1 {b b1 : Bl} {n : Nat} (h1 : b1 = if (b.left.length : Int) < n then failB b 1 else b) (h : b1.err ≠ 0) : bytB b n = ([], b1) := by
  by_cases hb : b.err = 0
  · by_cases hn : (b.left.length : Int) < n
    · rw [byt_out hb (.inr hn), h1, if_pos hn, failB, if_pos hb]
    · rw [if_neg hn] at h1; subst h1; exact absurd hb h
  · rw [byt_bad hb, h1]
    split
    · rw [failB, if_neg hb]
    · rfl
theorem byt_2 {b b1 : Bl} {n : Nat} (h1 : b1 = if (b.left.length : Int) < n then failB b 1 else b) (h : b1.err = 0) : b1 = b ∧ n ≤ b.left.length ∧ bytB b n = (b.left.take n, ⟨b.left.drop n, b.err⟩) := by
  by_cases hn : (b.left.length : Int) < n
  · rw [if_pos hn, failB] at h1
    split at h1
    · subst h1; cases h
    · rename_i hb; subst h1; exact absurd h hb
  · rw [if_neg hn] at h1
    subst h1
    refine ⟨rfl, by omega, ?_⟩
    rw [byt_ok h (by omega), h]; simp
theorem byt_nil {b : Bl} {n : Int} (h : (bytB b n).2.err ≠ 0) : (bytB b n).1 = [] := by
  unfold bytB at h ⊢
  split
  · rfl
  · split
    · rfl
    · rename_i h1 h2; rw [if_neg h1, if_neg h2] at h; exact absurd rfl h
theorem byt_lenN {b : Bl} {n : Nat} : (bytB b n).1.length ≤ n := by
  unfold bytB
  split
  · simp
  · split
    · simp
    · simp only [List.length_take]; omega
theorem num_all {b b2 b3 : Bl} (h : (bytB b 1).2.err = 0) (h2 : b2 = if 8 < ((bytB b 1).1.getD 0 0).toNat then failB (bytB b 1).2 2 else (bytB b 1).2) (h3 : b3 = if (bytB b2 (min ((bytB b 1).1.getD 0 0).toNat 8 : Nat)).1 ≠ [] ∧ (bytB b2 (min ((bytB b 1).1.getD 0 0).toNat 8 : Nat)).1.getD 0 0 = 0 then failB (bytB b2 (min ((bytB b 1).1.getD 0 0).toNat 8 : Nat)).2 2 else (bytB b2 (min ((bytB b 1).1.getD 0 0).toNat 8 : Nat)).2) :
    numR b = if b3.err ≠ 0 then (0, b3) else (beV (bytB b2 (min ((bytB b 1).1.getD 0 0).toNat 8 : Nat)).1, b3) := by
  by_cases hn : 8 < ((bytB b 1).1.getD 0 0).toNat
  · rw [if_pos hn, failB, if_pos h] at h2
    have hq := byt_bad (b := b2) (n := (min ((bytB b 1).1.getD 0 0).toNat 8 : Nat)) (by rw [h2]; decide)
    rw [hq] at h3
    rw [if_neg (fun q => q.1 rfl)] at h3
    rw [num_2 h hn, h3, if_pos (by rw [h2]; decide), h2]
  · rw [if_neg hn] at h2
    rw [show min ((bytB b 1).1.getD 0 0).toNat 8 = ((bytB b 1).1.getD 0 0).toNat from by omega] at h3 ⊢
    subst h2
    by_cases he : (bytB (bytB b 1).2 ((bytB b 1).1.getD 0 0).toNat).2.err = 0
    · by_cases hz : (bytB (bytB b 1).2 ((bytB b 1).1.getD 0 0).toNat).1 ≠ [] ∧ (bytB (bytB b 1).2 ((bytB b 1).1.getD 0 0).toNat).1.getD 0 0 = 0
      · rw [if_pos hz, failB, if_pos he] at h3
        rw [num_4 h hn he hz, h3, if_pos (show (2 : Int) ≠ 0 from by decide)]
      · rw [if_neg hz] at h3
        rw [num_5 h hn he hz, h3, if_neg (fun q => q he)]
    · rw [if_neg (fun q => q.1 (byt_nil he))] at h3
      rw [num_3 h hn he, h3, if_pos he]
theorem int_all {b b2 : Bl} {top : Nat} (h2 : b2 = if (numR b).2.err = 0 ∧ top < (numR b).1 then failB (numR b).2 5 else (numR b).2) : intR b top = if b2.err ≠ 0 then (0, b2) else ((numR b).1, b2) := by
  by_cases h : (numR b).2.err = 0
  · by_cases k : top < (numR b).1
    · rw [if_pos ⟨h, k⟩, failB, if_pos h] at h2
      rw [int_2 h k, h2, if_pos (show (5 : Int) ≠ 0 from by decide)]
    · rw [if_neg (fun q => k q.2)] at h2
      rw [int_3 h k, h2, if_neg (fun q => q h)]
  · rw [if_neg (fun q => h q.1)] at h2
    rw [int_1 h, h2, if_pos h]
theorem close_eq {b b1 : Bl} (h : b1 = if b.left ≠ [] then failB b 2 else b) : b1.err = closeE b := by
  unfold closeE
  by_cases h1 : b.left ≠ []
  · rw [if_pos h1, failB] at h
    by_cases h2 : b.err = 0
    · rw [if_pos h2] at h; rw [if_pos ⟨h2, h1⟩, h]
    · rw [if_neg h2] at h; rw [if_neg (fun q => h2 q.1), h]
  · rw [if_neg h1] at h; rw [if_neg (fun q => h1 q.2), h]
theorem gd_first {l : List UInt8} (h : l ≠ []) : l[0]? = some (l.getD 0 0) := by
  cases l with
  | nil => exact absurd rfl h
  | cons a l => rfl
theorem u8_zero {c : UInt8} : ((c.toNat : Int) = 0) ↔ c = 0 := ⟨fun h => UInt8.toNat.inj (by simpa using h), fun h => by rw [h]; rfl⟩
theorem zero_arm {q : List UInt8} {w : Bool} (hq : q ≠ []) (h : w = decide (((q.getD 0 0).toNat : Int) = 0)) : w = true ↔ (q ≠ [] ∧ q.getD 0 0 = 0) := by
  rw [h, decide_eq_true_eq, u8_zero]; exact ⟨fun e => ⟨hq, e⟩, fun e => e.2⟩


end Cv
