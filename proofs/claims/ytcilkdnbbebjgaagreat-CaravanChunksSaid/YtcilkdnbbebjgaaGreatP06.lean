/-
  The walks: numbers, texts, trees as bytes.
-/
import Derived.Test.YtcilkdnbbebjgaaGreatV05
import Derived.Test.YtcilkdnbbebjgaaGreatN05
import Derived.Test.YtcilkdnbbebjgaaGreatProg
import Derived.KernelRfl
set_option linter.unusedVariables false
set_option linter.unusedSimpArgs false
set_option linter.unusedSectionVars false
set_option maxRecDepth 10000
namespace Cv
open Go Go.Proofs
/-! ## numbers and texts as bytes -/
def beB (n : Nat) : List UInt8 := if h : n = 0 then [] else beB (n / 256) ++ [UInt8.ofNat (n % 256)]
termination_by n
decreasing_by omega
theorem beB_0 : beB 0 = [] := by rw [beB, dif_pos rfl]
theorem beB_pos {n : Nat} (h : 0 < n) : beB n = beB (n / 256) ++ [UInt8.ofNat (n % 256)] := by rw [beB, dif_neg (by omega)]
theorem beB_len : ∀ (k n : Nat), n < 256 ^ k → (beB n).length ≤ k
  | 0, n, h => by have : n = 0 := by simpa using h
                  rw [this, beB_0]; simp
  | k + 1, n, h => by
    by_cases hn : n = 0
    · rw [hn, beB_0]; simp
    · rw [beB_pos (by omega), List.length_append]
      have := beB_len k (n / 256) (by rw [Nat.pow_succ] at h; exact Nat.div_lt_of_lt_mul (by rw [Nat.mul_comm]; exact h))
      simp; omega
def numB (n : Nat) : List UInt8 := UInt8.ofNat (beB n).length :: beB n
def strB (s : List UInt8) : List UInt8 := numB s.length ++ s
theorem numB_len {n : Nat} (h : n < 18446744073709551616) : (numB n).length ≤ 9 := by
  have := beB_len 8 n (by simpa using h)
  simp [numB]; omega
theorem be_step {n m : Nat} {acc : List UInt8} (h : beB n = beB m ++ acc) (hm : 0 < m) : beB n = beB (m / 256) ++ (UInt8.ofNat (m % 256) :: acc) := by rw [h, beB_pos hm]; simp
theorem be_bound {m l : Nat} (h : m < 256 ^ (8 - l)) (hm : 0 < m) : l < 8 ∧ m / 256 < 256 ^ (8 - (1 + l)) := by
  have hl : l < 8 := by
    by_cases h8 : l < 8
    · exact h8
    · rw [show 8 - l = 0 from by omega] at h; simp at h; omega
  refine ⟨hl, ?_⟩
  rw [show 8 - l = (8 - (1 + l)) + 1 from by omega, Nat.pow_succ] at h
  exact Nat.div_lt_of_lt_mul (by rw [Nat.mul_comm]; exact h)
theorem y_byte (m : Nat) : Y (UInt8.ofNat (((m : Int)) % 256).toNat) = Y (UInt8.ofNat (m % 256)) := congrArg Y (congrArg UInt8.ofNat (by omega))
theorem y_byte' {m : Nat} (h : m < 256) : Y (UInt8.ofNat (((m : Int)) % 256).toNat) = Y (UInt8.ofNat m) := congrArg Y (congrArg UInt8.ofNat (by omega))
theorem shr8 (m : Nat) : Int.fdiv (m : Int) (2 ^ (min (8 : Int).toNat IntKind.u64.bits)) = ((m / 256 : Nat) : Int) := by
  show Int.fdiv (m : Int) 256 = _
  rw [Int.fdiv_eq_ediv_of_nonneg _ (by omega)]; omega
/-! ## a tree's archive -/
mutual
def putT : Tr → List UInt8
  | .mk _ k t ks => numB k.toNat ++ (if k ≠ 4 then strB t else numB ks.length ++ putL ks)
def putL : List Tr → List UInt8
  | [] => []
  | y :: ys => strB y.n ++ putT y ++ putL ys
end
theorem putT_eq (x : Tr) : putT x = numB x.k.toNat ++ (if x.k ≠ 4 then strB x.t else numB x.ks.length ++ putL x.ks) := by cases x; rw [putT]; rfl
theorem putL_step {ks : List Tr} {i : Nat} {y : Tr} (h : ks[i]? = some y) : putL (ks.take (i + 1)) = putL (ks.take i) ++ (strB y.n ++ putT y) := by
  have app : ∀ (xs ys : List Tr), putL (xs ++ ys) = putL xs ++ putL ys := by
    intro xs
    induction xs with
    | nil => intro ys; simp [putL]
    | cons x xs ih => intro ys; rw [List.cons_append, putL, putL, ih]; simp
  rw [← take_snoc h, app]
  simp [putL]
theorem putL_le {ks : List Tr} {i : Nat} {y : Tr} (h : ks[i]? = some y) : (putL (ks.take i)).length + (strB y.n).length + (putT y).length ≤ (putL ks).length := by
  have app : ∀ (xs ys : List Tr), putL (xs ++ ys) = putL xs ++ putL ys := by
    intro xs
    induction xs with
    | nil => intro ys; simp [putL]
    | cons x xs ih => intro ys; rw [List.cons_append, putL, putL, ih]; simp
  have e : putL ks = putL (ks.take (i + 1)) ++ putL (ks.drop (i + 1)) := by rw [← app, List.take_append_drop]
  rw [e, putL_step h]; simp; omega
theorem strB_len {s : List UInt8} (h : s.length < 18446744073709551616) : (strB s).length ≤ 9 + s.length := by
  have := numB_len h
  simp [strB]; omega
/-- what a check says -/
theorem own0_ok {k : Int} {t : List UInt8} {f : Bool} {d : Nat} (h : own0 k t f d = 0) : (1 ≤ k ∧ k ≤ 4) ∧ (k ≠ 4 → f = false) ∧ (k = 4 → t = []) ∧ t.length ≤ 8192 ∧ d ≤ 8 ∧ (k = 3 → t ≠ [] ∧ t.length ≤ 24 ∧ (0 : UInt8) ∉ t) := by
  unfold own0 at h
  split at h
  · simp at h
  · rename_i h1
    split at h
    · simp at h
    · rename_i h2
      split at h
      · simp at h
      · rename_i h3
        split at h
        · simp at h
        · rename_i h4
          refine ⟨by omega, fun hk => ?_, fun hk => ?_, by omega, by omega, fun hk => ⟨fun q => h2 (.inr (.inr ⟨hk, q⟩)), Nat.le_of_not_lt fun q => h3 ⟨hk, .inl q⟩, fun q => h3 ⟨hk, .inr q⟩⟩⟩
          · cases f with
            | false => rfl
            | true => exact absurd (.inl ⟨hk, rfl⟩) h2
          · by_cases ht : t = []
            · exact ht
            · exact absurd (.inr (.inl ⟨hk, ht⟩)) h2
theorem chkL_ok : ∀ (ks : List Tr) (d : Nat) (p : Option (List UInt8)) (n : Nat), (chkL ks d p n).2 = 0 → ∀ y ∈ ks, nameB y.n = true ∧ (chkT y d).2 = 0
  | [], d, p, n, h => fun y hy => by cases hy
  | y :: ys, d, p, n, h => by
    rw [chkL] at h
    split at h
    · simp at h
    · rename_i h1
      split at h
      · rename_i h2; exact absurd h h2
      · rename_i h2
        have ih := chkL_ok ys d (some y.n) _ h
        intro z hz
        rcases List.mem_cons.1 hz with rfl | hz
        · refine ⟨?_, by simpa using h2⟩
          cases hb : nameB z.n with
          | true => rfl
          | false => exact absurd (.inl hb) h1
        · exact ih z hz
theorem chkT_ok {x : Tr} {d : Nat} (h : (chkT x d).2 = 0) : own0 x.k x.t (decide (0 < x.ks.length)) d = 0 ∧ ∀ y ∈ x.ks, nameB y.n = true ∧ (chkT y (d + 1)).2 = 0 := by
  rw [chkT_eq] at h
  split at h
  · rename_i h1; exact absurd h h1
  · rename_i h1; exact ⟨by simpa using h1, chkL_ok _ _ _ _ h⟩
theorem nameB_len {s : List UInt8} (h : nameB s = true) : s.length ≤ 24 := by unfold nameB at h; simp at h; omega
/-- an archive of a tree that may be is not long -/
theorem putT_len (x : Tr) : ∀ d, (chkT x d).2 = 0 → x.count ≤ 900000 → (putT x).length + 40 ≤ 9000 * x.count := by
  refine Tr.ind (p := fun x => ∀ d, (chkT x d).2 = 0 → x.count ≤ 900000 → (putT x).length + 40 ≤ 9000 * x.count) (fun x ih d h hc => ?_) x
  obtain ⟨h0, h1⟩ := chkT_ok h
  obtain ⟨hk, _, _, ht, _, _⟩ := own0_ok h0
  have hce := x.count_eq
  have key : ∀ ks : List Tr, (∀ y ∈ ks, y ∈ x.ks) → (putL ks).length ≤ 9000 * countL ks := by
    intro ks
    induction ks with
    | nil => intro _; simp [putL]
    | cons y ys ihy =>
      intro hm
      have k1 := ihy (fun z hz => hm z (by simp [hz]))
      have hy : y ∈ x.ks := hm y (by simp)
      have hcy : y.count ≤ countL x.ks := count_mem hy
      obtain ⟨hn, hcy2⟩ := h1 y hy
      have k2 := ih y hy (d + 1) hcy2 (by omega)
      have k3 := nameB_len hn
      have k4 := strB_len (s := y.n) (by omega)
      simp only [putL, List.length_append, countL]
      omega
  rw [putT_eq, List.length_append]
  have n1 := numB_len (n := x.k.toNat) (by omega)
  split
  · have := strB_len (s := x.t) (by omega)
    omega
  · have := key x.ks (fun y hy => hy)
    have hl := count_le_len x.ks
    have := numB_len (n := x.ks.length) (by omega)
    rw [List.length_append]
    omega
/-! ## the archive, as the document tells it -/
def mark : List UInt8 := [99, 114, 118, 1]
def wrE (x : Tr) : Int := if chkE x ≠ 0 then chkE x else if 32768 < 4 + (putT x).length then 5 else 0
def wrS (x : Tr) : List UInt8 := if chkE x = 0 ∧ 4 + (putT x).length ≤ 32768 then mark ++ putT x else []
/-- what comes behind is no deeper -/
def Out (d : Nat) : List Nd → Prop
  | [] => True
  | z :: _ => z.dep ≤ d
theorem Out.up {d e : Nat} (h : d ≤ e) : ∀ {l : List Nd}, Out d l → Out e l
  | [], _ => trivial
  | z :: zs, k => by simp only [Out] at k ⊢; omega
theorem wr_bad {x : Tr} (h : chkE x ≠ 0) : wrS x = [] ∧ wrE x = chkE x := ⟨by unfold wrS; rw [if_neg (fun q => h q.1)], by unfold wrE; rw [if_pos h]⟩
theorem wr_big {x : Tr} (h : chkE x = 0) (k : 32768 < 4 + (putT x).length) : wrS x = [] ∧ wrE x = 5 := ⟨by unfold wrS; rw [if_neg (fun q => by omega)], by unfold wrE; rw [if_neg (fun q => q h), if_pos k]⟩
theorem wr_ok {x : Tr} (h : chkE x = 0) (k : ¬ 32768 < 4 + (putT x).length) : wrS x = mark ++ putT x ∧ wrE x = 0 := ⟨by unfold wrS; rw [if_pos ⟨h, by omega⟩], by unfold wrE; rw [if_neg (fun q => q h), if_neg k]⟩
end Cv
set_option maxRecDepth 10000
namespace Cv
open Go Go.Proofs
/-! ## bytes read -/
structure Bl where
  left : List UInt8
  err : Int
def bytB (b : Bl) (n : Int) : List UInt8 × Bl := if b.err ≠ 0 then ([], b) else if n < 0 ∨ (b.left.length : Int) < n then ([], ⟨[], 1⟩) else (b.left.take n.toNat, ⟨b.left.drop n.toNat, 0⟩)
def beV (s : List UInt8) : Nat := s.foldl (fun v c => v * 256 + c.toNat) 0
def numR (b : Bl) : Nat × Bl :=
  if (bytB b 1).2.err ≠ 0 then (0, (bytB b 1).2)
  else if 8 < ((bytB b 1).1.getD 0 0).toNat then (0, ⟨[], 2⟩)
  else if (bytB (bytB b 1).2 ((bytB b 1).1.getD 0 0).toNat).2.err ≠ 0 then (0, (bytB (bytB b 1).2 ((bytB b 1).1.getD 0 0).toNat).2)
  else if (bytB (bytB b 1).2 ((bytB b 1).1.getD 0 0).toNat).1 ≠ [] ∧ (bytB (bytB b 1).2 ((bytB b 1).1.getD 0 0).toNat).1.getD 0 0 = 0 then (0, ⟨[], 2⟩)
  else (beV (bytB (bytB b 1).2 ((bytB b 1).1.getD 0 0).toNat).1, (bytB (bytB b 1).2 ((bytB b 1).1.getD 0 0).toNat).2)
def intR (b : Bl) (top : Nat) : Nat × Bl := if (numR b).2.err ≠ 0 then (0, (numR b).2) else if top < (numR b).1 then (0, ⟨[], 5⟩) else numR b
def strR (b : Bl) (top : Nat) : List UInt8 × Bl := bytB (intR b top).2 (intR b top).1
end Cv
set_option maxRecDepth 10000
namespace Cv
open Go Go.Proofs
/-! ## items read -/
def loopF (rec : Int → Bl → Tr × Int × Bl) : Nat → Int → Bl → List Tr × Int × Bl
  | 0, l, b => ([], l, b)
  | n + 1, l, b => if b.err = 0 then (((rec l (strR b 24).2).1.named (strR b 24).1) :: (loopF rec n (rec l (strR b 24).2).2.1 (rec l (strR b 24).2).2.2).1, (loopF rec n (rec l (strR b 24).2).2.1 (rec l (strR b 24).2).2.2).2) else ([], l, b)
/-- what an item read is -/
structure ItR (d : Nat) (l : Int) (b : Bl) (r : Tr × Int × Bl) : Prop where
  cnt : (r.1.count : Int) = l - r.2.1
  low : 0 ≤ l → -1 ≤ r.2.1 ∧ (r.2.1 = -1 → r.2.2.err ≠ 0)
  stick : r.2.2.err = 0 → b.err = 0
  sm : TAll Sm r.1 ∧ r.1.t.length ≤ 20000
/-- how far the entries are read -/
structure LI (rec : Int → Bl → Tr × Int × Bl) (n : Nat) (l0 : Int) (b0 : Bl) (m : Nat) (l : Int) (b : Bl) (acc : List ET) : Prop where
  eq : loopF rec n l0 b0 = (acc.map (·.1) ++ (loopF rec m l b).1, (loopF rec m l b).2)
  low : -1 ≤ l ∧ (l = -1 → b.err ≠ 0) ∧ l ≤ 1000000
  len : acc.length + m ≤ n
theorem LI.zero {rec : Int → Bl → Tr × Int × Bl} {n : Nat} {l0 : Int} {b0 : Bl} (h : -1 ≤ l0 ∧ (l0 = -1 → b0.err ≠ 0) ∧ l0 ≤ 1000000) : LI rec n l0 b0 n l0 b0 [] := ⟨by simp, h, by simp⟩
theorem LI.step {rec : Int → Bl → Tr × Int × Bl} {n m : Nat} {l0 l : Int} {b0 b : Bl} {acc : List ET} (h : LI rec n l0 b0 m l b acc) (hm : 0 < m) (hb : b.err = 0) {d : Nat} (hr : ItR d l (strR b 24).2 (rec l (strR b 24).2)) {a : Option Addr} {ln c : Nat} : LI rec n l0 b0 (m - 1) (rec l (strR b 24).2).2.1 (rec l (strR b 24).2).2.2 (acc ++ [((rec l (strR b 24).2).1.named (strR b 24).1, a, ln, c)]) := by
  obtain ⟨k, rfl⟩ : ∃ k, m = k + 1 := ⟨m - 1, by omega⟩
  have hl : 0 ≤ l := by have := h.low; by_cases e : l = -1; exact absurd hb (this.2.1 e); omega
  have k1 := hr.low hl
  have k2 := hr.cnt
  refine ⟨?_, ⟨k1.1, k1.2, by have := h.low.2.2; omega⟩, by have := h.len; simp only [List.length_append, List.length_cons, List.length_nil]; omega⟩
  rw [h.eq, loopF, if_pos hb]
  simp
theorem LI.stop {rec : Int → Bl → Tr × Int × Bl} {n m : Nat} {l0 l : Int} {b0 b : Bl} {acc : List ET} (h : LI rec n l0 b0 m l b acc) (hn : ¬ (0 < m ∧ b.err = 0)) : loopF rec n l0 b0 = (acc.map (·.1), l, b) := by
  rw [h.eq]
  cases m with
  | zero => simp [loopF]
  | succ m => rw [loopF, if_neg (fun q => hn ⟨by omega, q⟩)]; simp
end Cv
set_option maxRecDepth 10000
namespace Cv
open Go Go.Proofs
/-! ## what is written is read, what is read is written -/
/-- how long an archive of a small tree is -/
theorem putT_small (x : Tr) : ∀ d, (chkT x d).2 = 0 → x.count ≤ 30 → TAll Sm2 x → x.t.length ≤ 300 → (putT x).length + 25 ≤ 400 * x.count := by
  refine Tr.ind (p := fun x => ∀ d, (chkT x d).2 = 0 → x.count ≤ 30 → TAll Sm2 x → x.t.length ≤ 300 → (putT x).length + 25 ≤ 400 * x.count) (fun x ih d h hc hs ht => ?_) x
  obtain ⟨h0, h1⟩ := chkT_ok h
  obtain ⟨hk, _⟩ := own0_ok h0
  have hce := x.count_eq
  have key : ∀ ks : List Tr, (∀ y ∈ ks, y ∈ x.ks) → (putL ks).length ≤ 400 * countL ks := by
    intro ks
    induction ks with
    | nil => intro _; simp [putL]
    | cons y ys ihy =>
      intro hm
      have k1 := ihy (fun z hz => hm z (by simp [hz]))
      have hy : y ∈ x.ks := hm y (by simp)
      have hcy : y.count ≤ countL x.ks := count_mem hy
      have k2 := ih y hy (d + 1) (h1 y hy).2 (by omega) (hs.kid hy).2 (hs.kid hy).1.2
      have k3 := (hs.kid hy).1.1
      have k4 := strB_len (s := y.n) (by omega)
      simp only [putL, List.length_append, countL]
      omega
  rw [putT_eq, List.length_append]
  have n1 := numB_len (n := x.k.toNat) (by omega)
  split
  · have := strB_len (s := x.t) (by omega)
    omega
  · have := key x.ks (fun y hy => hy)
    have hl := count_le_len x.ks
    have := numB_len (n := x.ks.length) (by omega)
    rw [List.length_append]
    omega
theorem small_wr {x : Tr} (h : chkE x = 0) (hc : x.count ≤ 30) (hs : TAll Sm2 x) (ht : x.t.length ≤ 300) : wrS x = mark ++ putT x ∧ wrE x = 0 ∧ (putT x).length ≤ 12000 := by
  have := putT_small x 1 (chkE_T h) hc hs ht
  obtain ⟨w1, w2⟩ := wr_ok h (by omega)
  exact ⟨w1, w2, by omega⟩
end Cv
