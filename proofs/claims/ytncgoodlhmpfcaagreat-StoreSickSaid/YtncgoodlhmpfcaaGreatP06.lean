/-
  The walks: numbers, texts, trees as bytes.
-/
import Derived.Test.YtncgoodlhmpfcaaGreatV05
set_option linter.all false
set_option maxRecDepth 10000
namespace Cv
open Go Go.Proofs
/-! ## numbers and texts as bytes -/
def beB (n : Nat) : List UInt8 := if h : n = 0 then [] else beB (n / 256) ++ [UInt8.ofNat (n % 256)]
termination_by n
decreasing_by omega
theorem beB_0 : beB 0 = [] := by rw [beB, dif_pos rfl]
theorem beB_pos {n : Nat} (h : 0 < n) : beB n = beB (n / 256) ++ [UInt8.ofNat (n % 256)] := by rw [beB, dif_neg (by omega)]
theorem beB_len : ∀ (k n : Nat), n < 256 ^ k → (beB n).length ≤ k
  | 0, n, h => by have : n = 0 := by simpa using h
                  rw [this, beB_0]; simp
  | k + 1, n, h => by
    by_cases hn : n = 0
    · rw [hn, beB_0]; simp
    · rw [beB_pos (by omega), List.length_append]
      have := beB_len k (n / 256) (by rw [Nat.pow_succ] at h; exact Nat.div_lt_of_lt_mul (by rw [Nat.mul_comm]; exact h))
      simp; omega
def numB (n : Nat) : List UInt8 := UInt8.ofNat (beB n).length :: beB n
def strB (s : List UInt8) : List UInt8 := numB s.length ++ s
theorem numB_len {n : Nat} (h : n < 18446744073709551616) : (numB n).length ≤ 9 := by
  have := beB_len 8 n (by simpa using h)
  simp [numB]; omega
theorem be_step {n m : Nat} {acc : List UInt8} (h : beB n = beB m ++ acc) (hm : 0 < m) : beB n = beB (m / 256) ++ (UInt8.ofNat (m % 256) :: acc) := by rw [h, beB_pos hm]; simp
theorem be_bound {m l : Nat} (h : m < 256 ^ (8 - l)) (hm : 0 < m) : l < 8 ∧ m / 256 < 256 ^ (8 - (1 + l)) := by
  have hl : l < 8 := by
    by_cases h8 : l < 8
    · exact h8
    · rw [show 8 - l = 0 from by omega] at h; simp at h; omega
  refine ⟨hl, ?_⟩
  rw [show 8 - l = (8 - (1 + l)) + 1 from by omega, Nat.pow_succ] at h
  exact Nat.div_lt_of_lt_mul (by rw [Nat.mul_comm]; exact h)
theorem y_byte (m : Nat) : Y (UInt8.ofNat (((m : Int)) % 256).toNat) = Y (UInt8.ofNat (m % 256)) := congrArg Y (congrArg UInt8.ofNat (by omega))
theorem y_byte' {m : Nat} (h : m < 256) : Y (UInt8.ofNat (((m : Int)) % 256).toNat) = Y (UInt8.ofNat m) := congrArg Y (congrArg UInt8.ofNat (by omega))
theorem shr8 (m : Nat) : Int.fdiv (m : Int) (2 ^ (min (8 : Int).toNat IntKind.u64.bits)) = ((m / 256 : Nat) : Int) := by
  show Int.fdiv (m : Int) 256 = _
  rw [Int.fdiv_eq_ediv_of_nonneg _ (by omega)]; omega
/-! ## a tree's archive -/
mutual
def putT : Tr → List UInt8
  | .mk _ k t ks => numB k.toNat ++ (if k ≠ 4 then strB t else numB ks.length ++ putL ks)
def putL : List Tr → List UInt8
  | [] => []
  | y :: ys => strB y.n ++ putT y ++ putL ys
end
theorem putT_eq (x : Tr) : putT x = numB x.k.toNat ++ (if x.k ≠ 4 then strB x.t else numB x.ks.length ++ putL x.ks) := by cases x; rw [putT]; rfl
theorem putL_step {ks : List Tr} {i : Nat} {y : Tr} (h : ks[i]? = some y) : putL (ks.take (i + 1)) = putL (ks.take i) ++ (strB y.n ++ putT y) := by
  have app : ∀ (xs ys : List Tr), putL (xs ++ ys) = putL xs ++ putL ys := by
    intro xs
    induction xs with
    | nil => intro ys; simp [putL]
    | cons x xs ih => intro ys; rw [List.cons_append, putL, putL, ih]; simp
  rw [← take_snoc h, app]
  simp [putL]
theorem putL_le {ks : List Tr} {i : Nat} {y : Tr} (h : ks[i]? = some y) : (putL (ks.take i)).length + (strB y.n).length + (putT y).length ≤ (putL ks).length := by
  have app : ∀ (xs ys : List Tr), putL (xs ++ ys) = putL xs ++ putL ys := by
    intro xs
    induction xs with
    | nil => intro ys; simp [putL]
    | cons x xs ih => intro ys; rw [List.cons_append, putL, putL, ih]; simp
  have e : putL ks = putL (ks.take (i + 1)) ++ putL (ks.drop (i + 1)) := by rw [← app, List.take_append_drop]
  rw [e, putL_step h]; simp; omega
theorem strB_len {s : List UInt8} (h : s.length < 18446744073709551616) : (strB s).length ≤ 9 + s.length := by
  have := numB_len h
  simp [strB]; omega
theorem own0_ok {k : Int} {t : List UInt8} {f : Bool} {d : Nat} (h : own0 k t f d = 0) : (1 ≤ k ∧ k ≤ 4) ∧ (k ≠ 4 → f = false) ∧ (k = 4 → t = []) ∧ t.length ≤ 8192 ∧ d ≤ 8 ∧ (k = 3 → t ≠ [] ∧ t.length ≤ 24 ∧ (0 : UInt8) ∉ t) := by
  unfold own0 at h
  split at h
  · simp at h
  · rename_i h1
    split at h
    · simp at h
    · rename_i h2
      split at h
      · simp at h
      · rename_i h3
        split at h
        · simp at h
        · rename_i h4
          refine ⟨by omega, fun hk => ?_, fun hk => ?_, by omega, by omega, fun hk => ⟨fun q => h2 (.inr (.inr ⟨hk, q⟩)), Nat.le_of_not_lt fun q => h3 ⟨hk, .inl q⟩, fun q => h3 ⟨hk, .inr q⟩⟩⟩
          · cases f with
            | false => rfl
            | true => exact absurd (.inl ⟨hk, rfl⟩) h2
          · by_cases ht : t = []
            · exact ht
            · exact absurd (.inr (.inl ⟨hk, ht⟩)) h2
theorem chkL_ok : ∀ (ks : List Tr) (d : Nat) (p : Option (List UInt8)) (n : Nat), (chkL ks d p n).2 = 0 → ∀ y ∈ ks, nameB y.n = true ∧ (chkT y d).2 = 0
  | [], d, p, n, h => fun y hy => by cases hy
  | y :: ys, d, p, n, h => by
    rw [chkL] at h
    split at h
    · simp at h
    · rename_i h1
      split at h
      · rename_i h2; exact absurd h h2
      · rename_i h2
        have ih := chkL_ok ys d (some y.n) _ h
        intro z hz
        rcases List.mem_cons.1 hz with rfl | hz
        · refine ⟨?_, by simpa using h2⟩
          cases hb : nameB z.n with
          | true => rfl
          | false => exact absurd (.inl hb) h1
        · exact ih z hz
theorem chkT_ok {x : Tr} {d : Nat} (h : (chkT x d).2 = 0) : own0 x.k x.t (decide (0 < x.ks.length)) d = 0 ∧ ∀ y ∈ x.ks, nameB y.n = true ∧ (chkT y (d + 1)).2 = 0 := by
  rw [chkT_eq] at h
  split at h
  · rename_i h1; exact absurd h h1
  · rename_i h1; exact ⟨by simpa using h1, chkL_ok _ _ _ _ h⟩
theorem nameB_len {s : List UInt8} (h : nameB s = true) : s.length ≤ 24 := by unfold nameB at h; simp at h; omega
theorem putT_len (x : Tr) : ∀ d, (chkT x d).2 = 0 → x.count ≤ 900000 → (putT x).length + 40 ≤ 9000 * x.count := by
  refine Tr.ind (p := fun x => ∀ d, (chkT x d).2 = 0 → x.count ≤ 900000 → (putT x).length + 40 ≤ 9000 * x.count) (fun x ih d h hc => ?_) x
  obtain ⟨h0, h1⟩ := chkT_ok h
  obtain ⟨hk, _, _, ht, _, _⟩ := own0_ok h0
  have hce := x.count_eq
  have key : ∀ ks : List Tr, (∀ y ∈ ks, y ∈ x.ks) → (putL ks).length ≤ 9000 * countL ks := by
    intro ks
    induction ks with
    | nil => intro _; simp [putL]
    | cons y ys ihy =>
      intro hm
      have k1 := ihy (fun z hz => hm z (by simp [hz]))
      have hy : y ∈ x.ks := hm y (by simp)
      have hcy : y.count ≤ countL x.ks := count_mem hy
      obtain ⟨hn, hcy2⟩ := h1 y hy
      have k2 := ih y hy (d + 1) hcy2 (by omega)
      have k3 := nameB_len hn
      have k4 := strB_len (s := y.n) (by omega)
      simp only [putL, List.length_append, countL]
      omega
  rw [putT_eq, List.length_append]
  have n1 := numB_len (n := x.k.toNat) (by omega)
  split
  · have := strB_len (s := x.t) (by omega)
    omega
  · have := key x.ks (fun y hy => hy)
    have hl := count_le_len x.ks
    have := numB_len (n := x.ks.length) (by omega)
    rw [List.length_append]
    omega
/-! ## the archive, as the document tells it -/
def mark : List UInt8 := [99, 114, 118, 1]
def wrE (x : Tr) : Int := if chkE x ≠ 0 then chkE x else if 32768 < 4 + (putT x).length then 5 else 0
def wrS (x : Tr) : List UInt8 := if chkE x = 0 ∧ 4 + (putT x).length ≤ 32768 then mark ++ putT x else []
theorem wr_bad {x : Tr} (h : chkE x ≠ 0) : wrS x = [] ∧ wrE x = chkE x := ⟨by unfold wrS; rw [if_neg (fun q => h q.1)], by unfold wrE; rw [if_pos h]⟩
theorem wr_big {x : Tr} (h : chkE x = 0) (k : 32768 < 4 + (putT x).length) : wrS x = [] ∧ wrE x = 5 := ⟨by unfold wrS; rw [if_neg (fun q => by omega)], by unfold wrE; rw [if_neg (fun q => q h), if_pos k]⟩
theorem wr_ok {x : Tr} (h : chkE x = 0) (k : ¬ 32768 < 4 + (putT x).length) : wrS x = mark ++ putT x ∧ wrE x = 0 := ⟨by unfold wrS; rw [if_pos ⟨h, by omega⟩], by unfold wrE; rw [if_neg (fun q => q h), if_neg k]⟩
end Cv
set_option maxRecDepth 10000
namespace Cv
open Go Go.Proofs
/-! ## bytes read -/
structure Bl where
  left : List UInt8
  err : Int
@[reducible] def blR (b : Bl) : List Value := [S b.left, .int .i64 b.err]
def failB (b : Bl) (e : Int) : Bl := if b.err = 0 then ⟨[], e⟩ else b
def bytB (b : Bl) (n : Int) : List UInt8 × Bl := if b.err ≠ 0 then ([], b) else if n < 0 ∨ (b.left.length : Int) < n then ([], ⟨[], 1⟩) else (b.left.take n.toNat, ⟨b.left.drop n.toNat, 0⟩)
def beV (s : List UInt8) : Nat := s.foldl (fun v c => v * 256 + c.toNat) 0
def numR (b : Bl) : Nat × Bl :=
  if (bytB b 1).2.err ≠ 0 then (0, (bytB b 1).2)
  else if 8 < ((bytB b 1).1.getD 0 0).toNat then (0, ⟨[], 2⟩)
  else if (bytB (bytB b 1).2 ((bytB b 1).1.getD 0 0).toNat).2.err ≠ 0 then (0, (bytB (bytB b 1).2 ((bytB b 1).1.getD 0 0).toNat).2)
  else if (bytB (bytB b 1).2 ((bytB b 1).1.getD 0 0).toNat).1 ≠ [] ∧ (bytB (bytB b 1).2 ((bytB b 1).1.getD 0 0).toNat).1.getD 0 0 = 0 then (0, ⟨[], 2⟩)
  else (beV (bytB (bytB b 1).2 ((bytB b 1).1.getD 0 0).toNat).1, (bytB (bytB b 1).2 ((bytB b 1).1.getD 0 0).toNat).2)
def intR (b : Bl) (top : Nat) : Nat × Bl := if (numR b).2.err ≠ 0 then (0, (numR b).2) else if top < (numR b).1 then (0, ⟨[], 5⟩) else numR b
def strR (b : Bl) (top : Nat) : List UInt8 × Bl := bytB (intR b top).2 (intR b top).1
def closeE (b : Bl) : Int := if b.err = 0 ∧ b.left ≠ [] then 2 else b.err
theorem byt_bad {b : Bl} {n : Int} (h : b.err ≠ 0) : bytB b n = ([], b) := by unfold bytB; rw [if_pos h]
theorem byt_out {b : Bl} {n : Int} (h : b.err = 0) (k : n < 0 ∨ (b.left.length : Int) < n) : bytB b n = ([], ⟨[], 1⟩) := by unfold bytB; rw [if_neg (fun q => q h), if_pos k]
theorem byt_ok {b : Bl} {n : Int} (h : b.err = 0) (k : ¬ (n < 0 ∨ (b.left.length : Int) < n)) : bytB b n = (b.left.take n.toNat, ⟨b.left.drop n.toNat, 0⟩) := by unfold bytB; rw [if_neg (fun q => q h), if_neg k]
theorem byt_len {b : Bl} {n : Int} (hn : 0 ≤ n) (h : (bytB b n).2.err = 0) : ((bytB b n).1.length : Int) = n ∧ b.err = 0 := by
  unfold bytB at h ⊢
  split at h
  · rename_i h1; exact absurd h h1
  · rename_i h1
    split at h
    · cases h
    · rename_i h2
      rw [if_neg h1, if_neg h2]
      simp only [List.length_take]
      omega
theorem beV_snoc (s : List UInt8) (c : UInt8) : beV (s ++ [c]) = beV s * 256 + c.toNat := by unfold beV; rw [List.foldl_append]; rfl
theorem beV_lt : ∀ (k : Nat) (s : List UInt8), s.length ≤ k → beV s < 256 ^ s.length
  | 0, s, h => by have : s = [] := List.length_eq_zero_iff.1 (by omega); subst this; decide
  | k + 1, s, h => by
    by_cases hs : s = []
    · subst hs; decide
    · have e := List.dropLast_concat_getLast hs
      obtain ⟨t, c, rfl⟩ : ∃ t c, s = t ++ [c] := ⟨_, _, e.symm⟩
      rw [List.length_append] at h
      have := beV_lt k t (by simp at h; omega)
      have hc := c.toNat_lt
      rw [beV_snoc, List.length_append]
      simp only [List.length_cons, List.length_nil, Nat.zero_add, Nat.pow_succ]
      omega
theorem beV_8 {s : List UInt8} {k : Nat} (h : s.length ≤ k) (hk : k ≤ 7) : beV s < 72057594037927936 := by
  have := beV_lt _ s (Nat.le_refl _)
  have h2 : 256 ^ s.length ≤ 256 ^ 7 := Nat.pow_le_pow_right (by decide) (by omega)
  omega
theorem beV_64 {s : List UInt8} (h : s.length ≤ 8) : beV s < 18446744073709551616 := by
  have := beV_lt _ s (Nat.le_refl _)
  have h2 : 256 ^ s.length ≤ 256 ^ 8 := Nat.pow_le_pow_right (by decide) (by omega)
  omega
theorem num_1 {b : Bl} (h : (bytB b 1).2.err ≠ 0) : numR b = (0, (bytB b 1).2) := by unfold numR; rw [if_pos h]
theorem num_2 {b : Bl} (h : (bytB b 1).2.err = 0) (h2 : 8 < ((bytB b 1).1.getD 0 0).toNat) : numR b = (0, ⟨[], 2⟩) := by unfold numR; rw [if_neg (fun q => q h), if_pos h2]
theorem num_3 {b : Bl} (h : (bytB b 1).2.err = 0) (h2 : ¬ 8 < ((bytB b 1).1.getD 0 0).toNat) (h3 : (bytB (bytB b 1).2 ((bytB b 1).1.getD 0 0).toNat).2.err ≠ 0) : numR b = (0, (bytB (bytB b 1).2 ((bytB b 1).1.getD 0 0).toNat).2) := by unfold numR; rw [if_neg (fun q => q h), if_neg h2, if_pos h3]
theorem num_4 {b : Bl} (h : (bytB b 1).2.err = 0) (h2 : ¬ 8 < ((bytB b 1).1.getD 0 0).toNat) (h3 : (bytB (bytB b 1).2 ((bytB b 1).1.getD 0 0).toNat).2.err = 0) (h4 : (bytB (bytB b 1).2 ((bytB b 1).1.getD 0 0).toNat).1 ≠ [] ∧ (bytB (bytB b 1).2 ((bytB b 1).1.getD 0 0).toNat).1.getD 0 0 = 0) : numR b = (0, ⟨[], 2⟩) := by unfold numR; rw [if_neg (fun q => q h), if_neg h2, if_neg (fun q => q h3), if_pos h4]
theorem num_5 {b : Bl} (h : (bytB b 1).2.err = 0) (h2 : ¬ 8 < ((bytB b 1).1.getD 0 0).toNat) (h3 : (bytB (bytB b 1).2 ((bytB b 1).1.getD 0 0).toNat).2.err = 0) (h4 : ¬ ((bytB (bytB b 1).2 ((bytB b 1).1.getD 0 0).toNat).1 ≠ [] ∧ (bytB (bytB b 1).2 ((bytB b 1).1.getD 0 0).toNat).1.getD 0 0 = 0)) : numR b = (beV (bytB (bytB b 1).2 ((bytB b 1).1.getD 0 0).toNat).1, (bytB (bytB b 1).2 ((bytB b 1).1.getD 0 0).toNat).2) := by unfold numR; rw [if_neg (fun q => q h), if_neg h2, if_neg (fun q => q h3), if_neg h4]
theorem int_1 {b : Bl} {top : Nat} (h : (numR b).2.err ≠ 0) : intR b top = (0, (numR b).2) := by unfold intR; rw [if_pos h]
theorem int_2 {b : Bl} {top : Nat} (h : (numR b).2.err = 0) (k : top < (numR b).1) : intR b top = (0, ⟨[], 5⟩) := by unfold intR; rw [if_neg (fun q => q h), if_pos k]
theorem int_3 {b : Bl} {top : Nat} (h : (numR b).2.err = 0) (k : ¬ top < (numR b).1) : intR b top = numR b := by unfold intR; rw [if_neg (fun q => q h), if_neg k]
theorem int_le (b : Bl) (top : Nat) : (intR b top).1 ≤ top := by
  unfold intR; split
  · simp
  · split
    · simp
    · omega
theorem num_64 (b : Bl) : (numR b).1 < 18446744073709551616 := by
  unfold numR
  split
  · show (0 : Nat) < 18446744073709551616; decide
  · split
    · show (0 : Nat) < 18446744073709551616; decide
    · rename_i h2
      split
      · show (0 : Nat) < 18446744073709551616; decide
      · rename_i h3
        split
        · show (0 : Nat) < 18446744073709551616; decide
        · refine beV_64 ?_
          have := (byt_len (b := (bytB b 1).2) (n := ((bytB b 1).1.getD 0 0).toNat) (by omega) (by simpa using h3)).1
          omega
theorem or_byte (v c : Nat) (h : c < 256) : (v * 256) ||| c = v * 256 + c := by
  have := Nat.two_pow_add_eq_or_of_lt (i := 8) (b := c) (by simpa using h) v
  rw [Nat.mul_comm, ← this]
theorem bitsOr_u64 {a b : Nat} (ha : a < 18446744073709551616) (hb : b < 18446744073709551616) : bitsOr .u64 (a : Int) (b : Int) = ((a ||| b : Nat) : Int) := by
  unfold bitsOr
  have e : ∀ c : Nat, c < 18446744073709551616 → (BitVec.ofInt IntKind.u64.bits (c : Int)).toNat = c := fun c hc => by
    simp only [IntKind.bits, BitVec.toNat_ofInt]
    have : ((c : Int) % ((2 ^ 64 : Nat) : Int)) = c := Int.emod_eq_of_lt (by omega) (by rw [show ((2 ^ 64 : Nat) : Int) = 18446744073709551616 from by decide]; omega)
    rw [this]; simp
  rw [BitVec.toNat_or, e a ha, e b hb]
  refine wrap_u64 (by omega) ?_
  have := Nat.or_lt_two_pow (n := 64) (x := a) (y := b) (by simpa using ha) (by simpa using hb)
  omega
theorem shl8 {v : Nat} (h : v < 72057594037927936) : IntKind.u64.wrap ((v : Int) * 2 ^ (min (8 : Int).toNat IntKind.u64.bits)) = ((v * 256 : Nat) : Int) := by
  show IntKind.u64.wrap ((v : Int) * 256) = _
  rw [wrap_u64 (by omega) (by omega)]; omega
theorem byt_1 {b b1 : Bl} {n : Nat} (h1 : b1 = if (b.left.length : Int) < n then failB b 1 else b) (h : b1.err ≠ 0) : bytB b n = ([], b1) := by
  by_cases hb : b.err = 0
  · by_cases hn : (b.left.length : Int) < n
    · rw [byt_out hb (.inr hn), h1, if_pos hn, failB, if_pos hb]
    · rw [if_neg hn] at h1; subst h1; exact absurd hb h
  · rw [byt_bad hb, h1]
    split
    · rw [failB, if_neg hb]
    · rfl
theorem byt_2 {b b1 : Bl} {n : Nat} (h1 : b1 = if (b.left.length : Int) < n then failB b 1 else b) (h : b1.err = 0) : b1 = b ∧ n ≤ b.left.length ∧ bytB b n = (b.left.take n, ⟨b.left.drop n, b.err⟩) := by
  by_cases hn : (b.left.length : Int) < n
  · rw [if_pos hn, failB] at h1
    split at h1
    · subst h1; cases h
    · rename_i hb; subst h1; exact absurd h hb
  · rw [if_neg hn] at h1
    subst h1
    refine ⟨R, by omega, ?_⟩
    rw [byt_ok h (by omega), h]; simp
theorem byt_nil {b : Bl} {n : Int} (h : (bytB b n).2.err ≠ 0) : (bytB b n).1 = [] := by
  unfold bytB at h ⊢
  split
  · rfl
  · split
    · rfl
    · rename_i h1 h2; rw [if_neg h1, if_neg h2] at h; exact absurd rfl h
theorem byt_lenN {b : Bl} {n : Nat} : (bytB b n).1.length ≤ n := by
  unfold bytB
  split
  · simp
  · split
    · simp
    · simp only [List.length_take]; omega
theorem num_all {b b2 b3 : Bl} (h : (bytB b 1).2.err = 0) (h2 : b2 = if 8 < ((bytB b 1).1.getD 0 0).toNat then failB (bytB b 1).2 2 else (bytB b 1).2) (h3 : b3 = if (bytB b2 (min ((bytB b 1).1.getD 0 0).toNat 8 : Nat)).1 ≠ [] ∧ (bytB b2 (min ((bytB b 1).1.getD 0 0).toNat 8 : Nat)).1.getD 0 0 = 0 then failB (bytB b2 (min ((bytB b 1).1.getD 0 0).toNat 8 : Nat)).2 2 else (bytB b2 (min ((bytB b 1).1.getD 0 0).toNat 8 : Nat)).2) :
    numR b = if b3.err ≠ 0 then (0, b3) else (beV (bytB b2 (min ((bytB b 1).1.getD 0 0).toNat 8 : Nat)).1, b3) := by
  by_cases hn : 8 < ((bytB b 1).1.getD 0 0).toNat
  · rw [if_pos hn, failB, if_pos h] at h2
    have hq := byt_bad (b := b2) (n := (min ((bytB b 1).1.getD 0 0).toNat 8 : Nat)) (by rw [h2]; decide)
    rw [hq] at h3
    rw [if_neg (fun q => q.1 rfl)] at h3
    rw [num_2 h hn, h3, if_pos (by rw [h2]; decide), h2]
  · rw [if_neg hn] at h2
    rw [show min ((bytB b 1).1.getD 0 0).toNat 8 = ((bytB b 1).1.getD 0 0).toNat from by omega] at h3 ⊢
    subst h2
    by_cases he : (bytB (bytB b 1).2 ((bytB b 1).1.getD 0 0).toNat).2.err = 0
    · by_cases hz : (bytB (bytB b 1).2 ((bytB b 1).1.getD 0 0).toNat).1 ≠ [] ∧ (bytB (bytB b 1).2 ((bytB b 1).1.getD 0 0).toNat).1.getD 0 0 = 0
      · rw [if_pos hz, failB, if_pos he] at h3
        rw [num_4 h hn he hz, h3, if_pos (show (2 : Int) ≠ 0 from by decide)]
      · rw [if_neg hz] at h3
        rw [num_5 h hn he hz, h3, if_neg (fun q => q he)]
    · rw [if_neg (fun q => q.1 (byt_nil he))] at h3
      rw [num_3 h hn he, h3, if_pos he]
theorem int_all {b b2 : Bl} {top : Nat} (h2 : b2 = if (numR b).2.err = 0 ∧ top < (numR b).1 then failB (numR b).2 5 else (numR b).2) : intR b top = if b2.err ≠ 0 then (0, b2) else ((numR b).1, b2) := by
  by_cases h : (numR b).2.err = 0
  · by_cases k : top < (numR b).1
    · rw [if_pos ⟨h, k⟩, failB, if_pos h] at h2
      rw [int_2 h k, h2, if_pos (show (5 : Int) ≠ 0 from by decide)]
    · rw [if_neg (fun q => k q.2)] at h2
      rw [int_3 h k, h2, if_neg (fun q => q h)]
  · rw [if_neg (fun q => h q.1)] at h2
    rw [int_1 h, h2, if_pos h]
theorem close_eq {b b1 : Bl} (h : b1 = if b.left ≠ [] then failB b 2 else b) : b1.err = closeE b := by
  unfold closeE
  by_cases h1 : b.left ≠ []
  · rw [if_pos h1, failB] at h
    by_cases h2 : b.err = 0
    · rw [if_pos h2] at h; rw [if_pos ⟨h2, h1⟩, h]
    · rw [if_neg h2] at h; rw [if_neg (fun q => h2 q.1), h]
  · rw [if_neg h1] at h; rw [if_neg (fun q => h1 q.2), h]
theorem gd_first {l : List UInt8} (h : l ≠ []) : l[0]? = some (l.getD 0 0) := by
  cases l with
  | nil => exact absurd rfl h
  | cons a l => rfl
theorem u8_zero {c : UInt8} : ((c.toNat : Int) = 0) ↔ c = 0 := ⟨fun h => UInt8.toNat.inj (by simpa using h), fun h => by rw [h]; rfl⟩
theorem zero_arm {q : List UInt8} {w : Bool} (hq : q ≠ []) (h : w = decide (((q.getD 0 0).toNat : Int) = 0)) : w = true ↔ (q ≠ [] ∧ q.getD 0 0 = 0) := by
  rw [h, decide_eq_true_eq, u8_zero]; exact ⟨fun e => ⟨hq, e⟩, fun e => e.2⟩


end Cv
set_option maxRecDepth 10000
namespace Cv
open Go Go.Proofs
/-! ## items read -/
def loopF (rec : Int → Bl → Tr × Int × Bl) : Nat → Int → Bl → List Tr × Int × Bl
  | 0, l, b => ([], l, b)
  | n + 1, l, b => if b.err = 0 then (((rec l (strR b 24).2).1.named (strR b 24).1) :: (loopF rec n (rec l (strR b 24).2).2.1 (rec l (strR b 24).2).2.2).1, (loopF rec n (rec l (strR b 24).2).2.1 (rec l (strR b 24).2).2.2).2) else ([], l, b)
def kindB (d : Nat) (l : Int) (b : Bl) : Bl := if l - 1 < 0 ∨ 8 < d then failB (intR b 4).2 5 else (intR b 4).2
def kindC (d : Nat) (l : Int) (b : Bl) : Bl := if (kindB d l b).err = 0 ∧ (intR b 4).1 < 1 then failB (kindB d l b) 2 else kindB d l b
def itemF : Nat → Nat → Int → Bl → Tr × Int × Bl
  | 0, d, l, b => (.mk [] 0 [] [], l, b)
  | f + 1, d, l, b =>
    if (intR b 4).1 ≠ 4 then (.mk [] (intR b 4).1 (strR (kindC d l b) 8192).1 [], l - 1, (strR (kindC d l b) 8192).2)
    else (.mk [] 4 [] (loopF (itemF f (d + 1)) (intR (kindC d l b) 64).1 (l - 1) (intR (kindC d l b) 64).2).1, (loopF (itemF f (d + 1)) (intR (kindC d l b) 64).1 (l - 1) (intR (kindC d l b) 64).2).2)
theorem num_bad {b : Bl} (h : b.err ≠ 0) : numR b = (0, b) := by
  rw [num_1 (by rw [byt_bad h]; exact h), byt_bad h]
theorem int_bad {b : Bl} {top : Nat} (h : b.err ≠ 0) : intR b top = (0, b) := by rw [int_1 (by rw [num_bad h]; exact h), num_bad h]
theorem str_bad {b : Bl} {top : Nat} (h : b.err ≠ 0) : strR b top = ([], b) := by unfold strR; rw [int_bad h, byt_bad h]
theorem int_stick {b : Bl} {top : Nat} (h : (intR b top).2.err = 0) : b.err = 0 := by
  by_cases hb : b.err = 0
  · exact hb
  · rw [int_bad hb] at h; exact absurd h hb
theorem str_stick {b : Bl} {top : Nat} (h : (strR b top).2.err = 0) : b.err = 0 := by
  by_cases hb : b.err = 0
  · exact hb
  · rw [str_bad hb] at h; exact absurd h hb
theorem fail_stick {b : Bl} {e : Int} (he : e ≠ 0) : (failB b e).err ≠ 0 := by
  unfold failB; split
  · exact he
  · assumption
theorem kind_stick {d : Nat} {l : Int} {b : Bl} (h : (kindC d l b).err = 0) : b.err = 0 ∧ 1 ≤ l ∧ d ≤ 8 ∧ 1 ≤ (intR b 4).1 ∧ kindC d l b = (intR b 4).2 := by
  have h1 : ¬ ((kindB d l b).err = 0 ∧ (intR b 4).1 < 1) := fun q => by
    unfold kindC at h; rw [if_pos q] at h; exact fail_stick (by decide) h
  have e1 : kindC d l b = kindB d l b := by unfold kindC; rw [if_neg h1]
  rw [e1] at h
  have h2 : ¬ (l - 1 < 0 ∨ 8 < d) := fun q => by
    unfold kindB at h; rw [if_pos q] at h; exact fail_stick (by decide) h
  have e2 : kindB d l b = (intR b 4).2 := by unfold kindB; rw [if_neg h2]
  rw [e2] at h
  exact ⟨int_stick h, by omega, by omega, Nat.le_of_not_lt fun q => h1 ⟨by rw [e2]; exact h, q⟩, by rw [e1, e2]⟩
theorem str_top {b : Bl} {top : Nat} : (strR b top).1.length ≤ top := by
  have h1 := int_le b top
  have h2 := byt_lenN (b := (intR b top).2) (n := (intR b top).1)
  unfold strR
  omega
structure ItR (d : Nat) (l : Int) (b : Bl) (r : Tr × Int × Bl) : Prop where
  cnt : (r.1.count : Int) = l - r.2.1
  low : 0 ≤ l → -1 ≤ r.2.1 ∧ (r.2.1 = -1 → r.2.2.err ≠ 0)
  stick : r.2.2.err = 0 → b.err = 0
  sm : TAll Sm r.1 ∧ r.1.t.length ≤ 20000
structure LpR (n : Nat) (l : Int) (b : Bl) (r : List Tr × Int × Bl) : Prop where
  cnt : (countL r.1 : Int) = l - r.2.1
  low : 0 ≤ l ∨ b.err ≠ 0 ∧ -1 ≤ l → -1 ≤ r.2.1 ∧ (r.2.1 = -1 → r.2.2.err ≠ 0)
  stick : r.2.2.err = 0 → b.err = 0
  sm : ∀ y ∈ r.1, Sm y ∧ TAll Sm y
  len : r.1.length ≤ n
theorem tall_named {p : Tr → Prop} {y : Tr} {m : List UInt8} (h : TAll p y) : TAll p (y.named m) := .of (fun w hw => h.kid hw)
theorem loop_ok {rec : Int → Bl → Tr × Int × Bl} (h : ∀ l b, ∃ d, ItR d l b (rec l b)) : ∀ n l b, LpR n l b (loopF rec n l b)
  | 0, l, b => ⟨by simp [loopF, countL], fun q => by
      rcases q with q | ⟨q1, q2⟩
      · exact ⟨by simp only [loopF]; omega, fun e => by simp only [loopF] at e; omega⟩
      · exact ⟨by simp only [loopF]; omega, fun _ => q1⟩, fun q => q, fun y hy => by simp [loopF] at hy, by simp [loopF]⟩
  | n + 1, l, b => by
    by_cases hb : b.err = 0
    · rw [loopF, if_pos hb]
      obtain ⟨d, h1⟩ := h l (strR b 24).2
      have h2 := loop_ok h n (rec l (strR b 24).2).2.1 (rec l (strR b 24).2).2.2
      refine ⟨?_, fun q => ?_, fun _ => hb, fun y hy => ?_, by have := h2.len; simp only [List.length_cons]; omega⟩
      · have c1 := h1.cnt
        have c2 := h2.cnt
        simp only [countL, count_named]
        omega
      · have hl : 0 ≤ l := by rcases q with q | ⟨q1, _⟩; exact q; exact absurd hb q1
        have k1 := h1.low hl
        refine h2.low ?_
        by_cases e : (rec l (strR b 24).2).2.1 = -1
        · exact .inr ⟨k1.2 e, k1.1⟩
        · exact .inl (by omega)
      · rcases List.mem_cons.1 hy with rfl | hy
        · have := str_top (b := b) (top := 24)
          exact ⟨⟨by show (strR b 24).1.length ≤ 20000; omega, h1.sm.2⟩, tall_named h1.sm.1⟩
        · exact h2.sm y hy
    · rw [loopF, if_neg hb]
      refine ⟨by simp [countL], fun q => ?_, fun q => q, fun y hy => by simp at hy, by simp⟩
      rcases q with q | ⟨q1, q2⟩
      · exact ⟨by simp only; omega, fun _ => hb⟩
      · exact ⟨q2, fun _ => hb⟩
theorem kind_low {d : Nat} {l : Int} {b : Bl} (h : l - 1 < 0) : (kindC d l b).err ≠ 0 := fun q => by have := kind_stick q; omega
theorem item_ok : ∀ (f d : Nat) (l : Int) (b : Bl), 1 ≤ f → d + f = 10 → ItR d l b (itemF f d l b)
  | f + 1, d, l, b, _, hd => by
    rw [itemF]
    by_cases hk : (intR b 4).1 ≠ 4
    · rw [if_pos hk]
      have ht := str_top (b := kindC d l b) (top := 8192)
      refine ⟨by simp only [Tr.count_eq, Tr.ks, countL]; omega, fun hl => ⟨by simp only; omega, fun e => ?_⟩, fun e => (kind_stick (str_stick e)).1, tall_leaf, by show (strR (kindC d l b) 8192).1.length ≤ 20000; omega⟩
      simp only at e ⊢
      have hb := kind_low (d := d) (b := b) (show l - 1 < 0 by omega)
      rw [str_bad hb]; exact hb
    · rw [if_neg hk]
      by_cases hc : (kindC d l b).err = 0
      · obtain ⟨hb, hl1, hd8, _, _⟩ := kind_stick hc
        have h2 := loop_ok (rec := itemF f (d + 1)) (fun l b => ⟨d + 1, item_ok f (d + 1) l b (by omega) (by omega)⟩) (intR (kindC d l b) 64).1 (l - 1) (intR (kindC d l b) 64).2
        refine ⟨?_, fun _ => h2.low (.inl (by omega)), fun _ => hb, .of h2.sm, by simp [Tr.t]⟩
        have := h2.cnt
        simp only [Tr.count_eq, Tr.ks]
        omega
      · rw [int_bad hc]
        simp only [loopF]
        refine ⟨by simp only [Tr.count_eq, Tr.ks, countL]; omega, fun hl => ⟨by show -1 ≤ l - 1; omega, fun _ => hc⟩, fun e => absurd e hc, tall_leaf, by simp [Tr.t]⟩
structure LI (rec : Int → Bl → Tr × Int × Bl) (n : Nat) (l0 : Int) (b0 : Bl) (m : Nat) (l : Int) (b : Bl) (acc : List ET) : Prop where
  eq : loopF rec n l0 b0 = (acc.map (·.1) ++ (loopF rec m l b).1, (loopF rec m l b).2)
  low : -1 ≤ l ∧ (l = -1 → b.err ≠ 0) ∧ l ≤ 1000000
  len : acc.length + m ≤ n
theorem LI.zero {rec : Int → Bl → Tr × Int × Bl} {n : Nat} {l0 : Int} {b0 : Bl} (h : -1 ≤ l0 ∧ (l0 = -1 → b0.err ≠ 0) ∧ l0 ≤ 1000000) : LI rec n l0 b0 n l0 b0 [] := ⟨by simp, h, by simp⟩
theorem LI.step {rec : Int → Bl → Tr × Int × Bl} {n m : Nat} {l0 l : Int} {b0 b : Bl} {acc : List ET} (h : LI rec n l0 b0 m l b acc) (hm : 0 < m) (hb : b.err = 0) {d : Nat} (hr : ItR d l (strR b 24).2 (rec l (strR b 24).2)) {a : Option Addr} {ln c : Nat} : LI rec n l0 b0 (m - 1) (rec l (strR b 24).2).2.1 (rec l (strR b 24).2).2.2 (acc ++ [((rec l (strR b 24).2).1.named (strR b 24).1, a, ln, c)]) := by
  obtain ⟨k, rfl⟩ : ∃ k, m = k + 1 := ⟨m - 1, by omega⟩
  have hl : 0 ≤ l := by have := h.low; by_cases e : l = -1; exact absurd hb (this.2.1 e); omega
  have k1 := hr.low hl
  have k2 := hr.cnt
  refine ⟨?_, ⟨k1.1, k1.2, by have := h.low.2.2; omega⟩, by have := h.len; simp only [List.length_append, List.length_cons, List.length_nil]; omega⟩
  rw [h.eq, loopF, if_pos hb]
  simp
theorem LI.stop {rec : Int → Bl → Tr × Int × Bl} {n m : Nat} {l0 l : Int} {b0 b : Bl} {acc : List ET} (h : LI rec n l0 b0 m l b acc) (hn : ¬ (0 < m ∧ b.err = 0)) : loopF rec n l0 b0 = (acc.map (·.1), l, b) := by
  rw [h.eq]
  cases m with
  | zero => simp [loopF]
  | succ m => rw [loopF, if_neg (fun q => hn ⟨by omega, q⟩)]; simp
theorem item_file {f d : Nat} {l : Int} {b : Bl} (h : (intR b 4).1 ≠ 4) : itemF (f + 1) d l b = (.mk [] (intR b 4).1 (strR (kindC d l b) 8192).1 [], l - 1, (strR (kindC d l b) 8192).2) := by rw [itemF, if_pos h]
theorem item_dir {f d : Nat} {l : Int} {b : Bl} (h : ¬ (intR b 4).1 ≠ 4) : itemF (f + 1) d l b = (.mk [] 4 [] (loopF (itemF f (d + 1)) (intR (kindC d l b) 64).1 (l - 1) (intR (kindC d l b) 64).2).1, (loopF (itemF f (d + 1)) (intR (kindC d l b) 64).1 (l - 1) (intR (kindC d l b) 64).2).2) := by rw [itemF, if_neg h]
theorem kind_pos {d : Nat} {l : Int} {b : Bl} (h : 0 < (intR (kindC d l b) 64).1) : (kindC d l b).err = 0 := by
  by_cases hc : (kindC d l b).err = 0
  · exact hc
  · rw [int_bad hc] at h; exact absurd h (Nat.lt_irrefl _)


end Cv
set_option maxRecDepth 10000
namespace Cv
open Go Go.Proofs
/-! ## what is written is read, what is read is written -/
theorem ofNat_toNat {n : Nat} (h : n < 256) : (UInt8.ofNat n).toNat = n := by simp; omega
theorem beV_beB : ∀ n : Nat, beV (beB n) = n := by
  intro n
  induction n using Nat.strongRecOn with
  | _ n ih =>
    by_cases h : n = 0
    · rw [h, beB_0]; rfl
    · rw [beB_pos (by omega), beV_snoc, ih (n / 256) (by omega), ofNat_toNat (by omega)]; omega
theorem beB_head : ∀ n : Nat, ∀ c, (beB n)[0]? = some c → c ≠ 0 := by
  intro n
  induction n using Nat.strongRecOn with
  | _ n ih =>
    intro c hc
    by_cases h : n = 0
    · rw [h, beB_0] at hc; simp at hc
    · rw [beB_pos (by omega)] at hc
      by_cases h2 : n / 256 = 0
      · rw [h2, beB_0] at hc
        simp at hc
        intro e
        subst hc
        have := congrArg UInt8.toNat e
        rw [ofNat_toNat (by omega)] at this
        simp at this
        omega
      · have hne : 0 < (beB (n / 256)).length := by rw [beB_pos (by omega)]; simp
        rw [List.getElem?_append_left hne] at hc
        exact ih (n / 256) (by omega) c hc
theorem byt_app {s rest : List UInt8} : bytB ⟨s ++ rest, 0⟩ s.length = (s, ⟨rest, 0⟩) := by
  rw [byt_ok rfl (by simp only [List.length_append]; omega)]
  simp
theorem num_put {n : Nat} {rest : List UInt8} (hn : n < 18446744073709551616) : numR ⟨numB n ++ rest, 0⟩ = (n, ⟨rest, 0⟩) := by
  have hl := beB_len 8 n (by simpa using hn)
  have e1 : bytB ⟨numB n ++ rest, 0⟩ 1 = ([UInt8.ofNat (beB n).length], ⟨beB n ++ rest, 0⟩) := by
    have := byt_app (s := [UInt8.ofNat (beB n).length]) (rest := beB n ++ rest)
    simpa [numB] using this
  have e2 : ((bytB ⟨numB n ++ rest, 0⟩ 1).1.getD 0 0).toNat = (beB n).length := by rw [e1]; exact ofNat_toNat (by omega)
  have e3 : bytB (bytB ⟨numB n ++ rest, 0⟩ 1).2 ((bytB ⟨numB n ++ rest, 0⟩ 1).1.getD 0 0).toNat = (beB n, ⟨rest, 0⟩) := by rw [e2, e1]; exact byt_app
  rw [num_5 (by rw [e1]) (by rw [e2]; omega) (by rw [e3]) (by
    rw [e3]
    rintro ⟨h1, h2⟩
    exact beB_head n _ (gd_first h1) h2), e3, beV_beB]
theorem int_put {n top : Nat} {rest : List UInt8} (hn : n ≤ top) (ht : top < 18446744073709551616) : intR ⟨numB n ++ rest, 0⟩ top = (n, ⟨rest, 0⟩) := by
  have e := num_put (n := n) (rest := rest) (by omega)
  rw [int_3 (by rw [e]) (by rw [e]; omega), e]
theorem str_put {s rest : List UInt8} {top : Nat} (hs : s.length ≤ top) (ht : top < 18446744073709551616) : strR ⟨strB s ++ rest, 0⟩ top = (s, ⟨rest, 0⟩) := by
  have e := int_put (n := s.length) (top := top) (rest := s ++ rest) hs ht
  unfold strR
  rw [show strB s ++ rest = numB s.length ++ (s ++ rest) from by unfold strB; simp, e]
  exact byt_app
theorem item_put : ∀ (f d : Nat) (x : Tr) (l : Int) (rest : List UInt8), d + f = 10 → (chkT x d).2 = 0 → 1 ≤ d → (x.count : Int) ≤ l → x.count ≤ 64 → itemF f d l ⟨putT x ++ rest, 0⟩ = (x.named [], l - x.count, ⟨rest, 0⟩)
  | 0, d, x, l, rest, hd, hc, _, _, _ => by obtain ⟨h0, _⟩ := chkT_ok hc; have := (own0_ok h0).2.2.2.2.1; omega
  | f + 1, d, x, l, rest, hd, hc, h1d, hl, h64 => by
    obtain ⟨h0, h1⟩ := chkT_ok hc
    obtain ⟨hk, hkf, hkt, ht, hd8, _⟩ := own0_ok h0
    have hp := count_pos x
    have hce := x.count_eq
    have hcl := count_le_len x.ks
    have key : ∀ (ks : List Tr), (∀ y ∈ ks, y ∈ x.ks) → ∀ (l : Int) (rest : List UInt8), (countL ks : Int) ≤ l → loopF (itemF f (d + 1)) ks.length l ⟨putL ks ++ rest, 0⟩ = (ks, l - countL ks, ⟨rest, 0⟩) := by
      intro ks
      induction ks with
      | nil => intro _ l rest _; simp [loopF, putL, countL]
      | cons y ys ihy =>
        intro hm l rest hl
        simp only [countL] at hl
        have hy : y ∈ x.ks := hm y (by simp)
        have hn := nameB_len (h1 y hy).1
        have hcy := count_mem hy
        have e1 := str_put (s := y.n) (top := 24) (rest := putT y ++ (putL ys ++ rest)) hn (by decide)
        have e2 := item_put f (d + 1) y l (putL ys ++ rest) (by omega) (h1 y hy).2 (by omega) (by omega) (by omega)
        have e0 : putL (y :: ys) ++ rest = strB y.n ++ (putT y ++ (putL ys ++ rest)) := by simp [putL]
        rw [List.length_cons, loopF, if_pos rfl, e0, e1]
        simp only
        rw [e2]
        simp only
        rw [ihy (fun z hz => hm z (by simp [hz])) (l - y.count) rest (by omega)]
        refine Prod.ext ?_ (Prod.ext ?_ R)
        · show ((y.named []).named y.n) :: ys = y :: ys
          rw [show (y.named []).named y.n = y from (Tr.eta y).symm]
        · simp only [countL]; omega
    have hkn : ((x.k.toNat : Nat) : Int) = x.k := by omega
    by_cases hk4 : x.k = 4
    · have ep : putT x ++ rest = numB x.k.toNat ++ (numB x.ks.length ++ (putL x.ks ++ rest)) := by rw [putT_eq, if_neg (fun q => q hk4)]; simp
      have e1 := int_put (n := x.k.toNat) (top := 4) (rest := numB x.ks.length ++ (putL x.ks ++ rest)) (by omega) (by decide)
      have e2 : kindC d l ⟨putT x ++ rest, 0⟩ = ⟨numB x.ks.length ++ (putL x.ks ++ rest), 0⟩ := by
        unfold kindC kindB
        rw [ep, e1, if_neg (fun q => by have h : x.k.toNat < 1 := q.2; omega), if_neg (by omega)]
      have e3 := int_put (n := x.ks.length) (top := 64) (rest := putL x.ks ++ rest) (by omega) (by decide)
      rw [item_dir (fun q => q (by rw [ep, e1]; show x.k.toNat = 4; omega)), e2, e3]
      simp only
      rw [key x.ks (fun y hy => hy) (l - 1) rest (by omega)]
      refine Prod.ext ?_ (Prod.ext ?_ R)
      · show Tr.mk [] 4 [] x.ks = Tr.mk [] x.k x.t x.ks
        rw [hk4, hkt hk4]
      · show l - 1 - (countL x.ks : Int) = l - x.count
        omega
    · have hks : x.ks = [] := by have := hkf hk4; simpa using this
      have ep : putT x ++ rest = numB x.k.toNat ++ (strB x.t ++ rest) := by rw [putT_eq, if_pos hk4]; simp
      have e1 := int_put (n := x.k.toNat) (top := 4) (rest := strB x.t ++ rest) (by omega) (by decide)
      have e2 : kindC d l ⟨putT x ++ rest, 0⟩ = ⟨strB x.t ++ rest, 0⟩ := by
        unfold kindC kindB
        rw [ep, e1, if_neg (fun q => by have h : x.k.toNat < 1 := q.2; omega), if_neg (by omega)]
      have e3 := str_put (s := x.t) (top := 8192) (rest := rest) ht (by decide)
      rw [item_file (by rw [ep, e1]; show x.k.toNat ≠ 4; omega), e2, e3, ep, e1]
      refine Prod.ext ?_ (Prod.ext ?_ R)
      · show Tr.mk [] ((x.k.toNat : Nat) : Int) x.t [] = Tr.mk [] x.k x.t x.ks
        rw [hkn, hks]
      · show l - 1 = l - x.count
        rw [hce, hks]; simp [countL]
def parF (s : List UInt8) : Tr × Int :=
  if 32768 < s.length then (.mk [] 0 [] [], 5)
  else if s.take 4 ≠ mark then (.mk [] 0 [] [], 2)
  else if closeE (itemF 9 1 64 ⟨s.drop 4, 0⟩).2.2 ≠ 0 then (.mk [] 0 [] [], closeE (itemF 9 1 64 ⟨s.drop 4, 0⟩).2.2)
  else if chkE (itemF 9 1 64 ⟨s.drop 4, 0⟩).1 ≠ 0 then (.mk [] 0 [] [], chkE (itemF 9 1 64 ⟨s.drop 4, 0⟩).1)
  else ((itemF 9 1 64 ⟨s.drop 4, 0⟩).1, 0)
theorem chkE_le {x : Tr} (h : chkE x = 0) : x.count ≤ 64 := by
  have h1 := chkE_T h
  have h2 := (chk_all x 1 [] true true).2 h1 (Nat.le_refl _)
  unfold chkE at h
  by_cases q : (chkT x 1).2 = 0 ∧ 64 < (chkT x 1).1
  · rw [if_pos q] at h; cases h
  · have : ¬ 64 < (chkT x 1).1 := fun e => q ⟨h1, e⟩
    omega
theorem named_chk (x : Tr) (m : List UInt8) (d : Nat) : chkT (x.named m) d = chkT x d := by rw [chkT_eq, chkT_eq x]; rfl
theorem named_chkE (x : Tr) (m : List UInt8) : chkE (x.named m) = chkE x := by unfold chkE; rw [named_chk]
theorem par_put {x : Tr} (h : chkE x = 0) (hl : 4 + (putT x).length ≤ 32768) : parF (mark ++ putT x) = (x.named [], 0) := by
  have h64 := chkE_le h
  have e := item_put 9 1 x 64 [] rfl (chkE_T h) (Nat.le_refl _) (by omega) h64
  rw [List.append_nil] at e
  have ed : (mark ++ putT x).drop 4 = putT x := rfl
  unfold parF
  rw [if_neg (by rw [List.length_append]; show ¬ 32768 < 4 + _; omega), if_neg (fun q => q rfl), ed, e]
  simp only
  rw [if_neg (fun q => q rfl), named_chkE, if_neg (fun q => q h)]
def cpF (s : List UInt8) : List UInt8 := if s.take 4 = mark then s.drop 4 else s
theorem cpF_yes {s : List UInt8} (h : s.take 4 = mark) : cpF s = s.drop 4 := if_pos h
end Cv
