/-
  The walks: numbers, texts, trees as bytes.
-/
import Derived.Test.YtdajpfbgikgkeaaV05
import Derived.Test.YtdajpfbgikgkeaaN05
import Derived.Test.YtdajpfbgikgkeaaProg
import Derived.KernelRfl
set_option linter.unusedVariables false
set_option linter.unusedSimpArgs false
set_option linter.unusedSectionVars false
set_option maxRecDepth 10000
namespace Cv
open Go Go.Proofs
/-! ## numbers and texts as bytes -/
def beB (n : Nat) : List UInt8 := if h : n = 0 then [] else beB (n / 256) ++ [UInt8.ofNat (n % 256)]
termination_by n
decreasing_by omega
theorem beB_0 : beB 0 = [] := by rw [beB, dif_pos rfl]
theorem beB_pos {n : Nat} (h : 0 < n) : beB n = beB (n / 256) ++ [UInt8.ofNat (n % 256)] := by rw [beB, dif_neg (by omega)]
theorem beB_len : ∀ (k n : Nat), n < 256 ^ k → (beB n).length ≤ k
  | 0, n, h => by have : n = 0 := by simpa using h
                  rw [this, beB_0]; simp
  | k + 1, n, h => by
    by_cases hn : n = 0
    · rw [hn, beB_0]; simp
    · rw [beB_pos (by omega), List.length_append]
      have := beB_len k (n / 256) (by rw [Nat.pow_succ] at h; exact Nat.div_lt_of_lt_mul (by rw [Nat.mul_comm]; exact h))
      simp; omega
def numB (n : Nat) : List UInt8 := UInt8.ofNat (beB n).length :: beB n
def strB (s : List UInt8) : List UInt8 := numB s.length ++ s
theorem numB_len {n : Nat} (h : n < 18446744073709551616) : (numB n).length ≤ 9 := by
  have := beB_len 8 n (by simpa using h)
  simp [numB]; omega
theorem be_step {n m : Nat} {acc : List UInt8} (h : beB n = beB m ++ acc) (hm : 0 < m) : beB n = beB (m / 256) ++ (UInt8.ofNat (m % 256) :: acc) := by rw [h, beB_pos hm]; simp
theorem be_bound {m l : Nat} (h : m < 256 ^ (8 - l)) (hm : 0 < m) : l < 8 ∧ m / 256 < 256 ^ (8 - (1 + l)) := by
  have hl : l < 8 := by
    by_cases h8 : l < 8
    · exact h8
    · rw [show 8 - l = 0 from by omega] at h; simp at h; omega
  refine ⟨hl, ?_⟩
  rw [show 8 - l = (8 - (1 + l)) + 1 from by omega, Nat.pow_succ] at h
  exact Nat.div_lt_of_lt_mul (by rw [Nat.mul_comm]; exact h)
theorem y_byte (m : Nat) : Y (UInt8.ofNat (((m : Int)) % 256).toNat) = Y (UInt8.ofNat (m % 256)) := congrArg Y (congrArg UInt8.ofNat (by omega))
theorem y_byte' {m : Nat} (h : m < 256) : Y (UInt8.ofNat (((m : Int)) % 256).toNat) = Y (UInt8.ofNat m) := congrArg Y (congrArg UInt8.ofNat (by omega))
theorem shr8 (m : Nat) : Int.fdiv (m : Int) (2 ^ (min (8 : Int).toNat IntKind.u64.bits)) = ((m / 256 : Nat) : Int) := by
  show Int.fdiv (m : Int) 256 = _
  rw [Int.fdiv_eq_ediv_of_nonneg _ (by omega)]; omega
theorem tm256 (m : Nat) : (m : Int).tmod 256 = ((m % 256 : Nat) : Int) := rfl
theorem td256 (m : Nat) : (m : Int).tdiv 256 = ((m / 256 : Nat) : Int) := rfl
/-! ## a tree's archive -/
mutual
def putT : Tr → List UInt8
  | .mk _ k t ks => numB k.toNat ++ (if k ≠ 4 then strB t else numB ks.length ++ putL ks)
def putL : List Tr → List UInt8
  | [] => []
  | y :: ys => strB y.n ++ putT y ++ putL ys
end
theorem putT_eq (x : Tr) : putT x = numB x.k.toNat ++ (if x.k ≠ 4 then strB x.t else numB x.ks.length ++ putL x.ks) := by cases x; rw [putT]; rfl
theorem putL_step {ks : List Tr} {i : Nat} {y : Tr} (h : ks[i]? = some y) : putL (ks.take (i + 1)) = putL (ks.take i) ++ (strB y.n ++ putT y) := by
  have app : ∀ (xs ys : List Tr), putL (xs ++ ys) = putL xs ++ putL ys := by
    intro xs
    induction xs with
    | nil => intro ys; simp [putL]
    | cons x xs ih => intro ys; rw [List.cons_append, putL, putL, ih]; simp
  rw [← take_snoc h, app]
  simp [putL]
theorem putL_le {ks : List Tr} {i : Nat} {y : Tr} (h : ks[i]? = some y) : (putL (ks.take i)).length + (strB y.n).length + (putT y).length ≤ (putL ks).length := by
  have app : ∀ (xs ys : List Tr), putL (xs ++ ys) = putL xs ++ putL ys := by
    intro xs
    induction xs with
    | nil => intro ys; simp [putL]
    | cons x xs ih => intro ys; rw [List.cons_append, putL, putL, ih]; simp
  have e : putL ks = putL (ks.take (i + 1)) ++ putL (ks.drop (i + 1)) := by rw [← app, List.take_append_drop]
  rw [e, putL_step h]; simp; omega
theorem strB_len {s : List UInt8} (h : s.length < 18446744073709551616) : (strB s).length ≤ 9 + s.length := by
  have := numB_len h
  simp [strB]; omega
/-- what a check says -/
theorem own0_ok {k : Int} {t : List UInt8} {f : Bool} {d : Nat} (h : own0 k t f d = 0) : (1 ≤ k ∧ k ≤ 4) ∧ (k ≠ 4 → f = false) ∧ (k = 4 → t = []) ∧ t.length ≤ 8192 ∧ d ≤ 8 ∧ (k = 3 → t ≠ [] ∧ t.length ≤ 24 ∧ (0 : UInt8) ∉ t) := by
  unfold own0 at h
  split at h
  · simp at h
  · rename_i h1
    split at h
    · simp at h
    · rename_i h2
      split at h
      · simp at h
      · rename_i h3
        split at h
        · simp at h
        · rename_i h4
          refine ⟨by omega, fun hk => ?_, fun hk => ?_, by omega, by omega, fun hk => ⟨fun q => h2 (.inr (.inr ⟨hk, q⟩)), Nat.le_of_not_lt fun q => h3 ⟨hk, .inl q⟩, fun q => h3 ⟨hk, .inr q⟩⟩⟩
          · cases f with
            | false => rfl
            | true => exact absurd (.inl ⟨hk, rfl⟩) h2
          · by_cases ht : t = []
            · exact ht
            · exact absurd (.inr (.inl ⟨hk, ht⟩)) h2
theorem chkL_ok : ∀ (ks : List Tr) (d : Nat) (p : Option (List UInt8)) (n : Nat), (chkL ks d p n).2 = 0 → ∀ y ∈ ks, nameB y.n = true ∧ (chkT y d).2 = 0
  | [], d, p, n, h => fun y hy => by cases hy
  | y :: ys, d, p, n, h => by
    rw [chkL] at h
    split at h
    · simp at h
    · rename_i h1
      split at h
      · rename_i h2; exact absurd h h2
      · rename_i h2
        have ih := chkL_ok ys d (some y.n) _ h
        intro z hz
        rcases List.mem_cons.1 hz with rfl | hz
        · refine ⟨?_, by simpa using h2⟩
          cases hb : nameB z.n with
          | true => rfl
          | false => exact absurd (.inl hb) h1
        · exact ih z hz
theorem chkT_ok {x : Tr} {d : Nat} (h : (chkT x d).2 = 0) : own0 x.k x.t (decide (0 < x.ks.length)) d = 0 ∧ ∀ y ∈ x.ks, nameB y.n = true ∧ (chkT y (d + 1)).2 = 0 := by
  rw [chkT_eq] at h
  split at h
  · rename_i h1; exact absurd h h1
  · rename_i h1; exact ⟨by simpa using h1, chkL_ok _ _ _ _ h⟩
theorem nameB_len {s : List UInt8} (h : nameB s = true) : s.length ≤ 24 := by unfold nameB at h; simp at h; omega
/-- an archive of a tree that may be is not long -/
theorem putT_len (x : Tr) : ∀ d, (chkT x d).2 = 0 → x.count ≤ 900000 → (putT x).length + 40 ≤ 9000 * x.count := by
  refine Tr.ind (p := fun x => ∀ d, (chkT x d).2 = 0 → x.count ≤ 900000 → (putT x).length + 40 ≤ 9000 * x.count) (fun x ih d h hc => ?_) x
  obtain ⟨h0, h1⟩ := chkT_ok h
  obtain ⟨hk, _, _, ht, _, _⟩ := own0_ok h0
  have hce := x.count_eq
  have key : ∀ ks : List Tr, (∀ y ∈ ks, y ∈ x.ks) → (putL ks).length ≤ 9000 * countL ks := by
    intro ks
    induction ks with
    | nil => intro _; simp [putL]
    | cons y ys ihy =>
      intro hm
      have k1 := ihy (fun z hz => hm z (by simp [hz]))
      have hy : y ∈ x.ks := hm y (by simp)
      have hcy : y.count ≤ countL x.ks := count_mem hy
      obtain ⟨hn, hcy2⟩ := h1 y hy
      have k2 := ih y hy (d + 1) hcy2 (by omega)
      have k3 := nameB_len hn
      have k4 := strB_len (s := y.n) (by omega)
      simp only [putL, List.length_append, countL]
      omega
  rw [putT_eq, List.length_append]
  have n1 := numB_len (n := x.k.toNat) (by omega)
  split
  · have := strB_len (s := x.t) (by omega)
    omega
  · have := key x.ks (fun y hy => hy)
    have hl := count_le_len x.ks
    have := numB_len (n := x.ks.length) (by omega)
    rw [List.length_append]
    omega
/-! ## the archive, as the document tells it -/
def mark : List UInt8 := [99, 114, 118, 1]
def wrE (x : Tr) : Int := if chkE x ≠ 0 then chkE x else if 32768 < 4 + (putT x).length then 5 else 0
def wrS (x : Tr) : List UInt8 := if chkE x = 0 ∧ 4 + (putT x).length ≤ 32768 then mark ++ putT x else []
/-- how many of the next depth are in the one at depth d -/
def chF (d : Nat) : List Nd → Nat
  | [] => 0
  | z :: zs => if d < z.dep then (if z.dep = d + 1 then 1 else 0) + chF d zs else 0
theorem chF_le (d : Nat) : ∀ l : List Nd, chF d l ≤ l.length
  | [] => by simp [chF]
  | z :: zs => by
    rw [chF]
    split
    · have := chF_le d zs
      simp only [List.length_cons]
      split <;> omega
    · simp
def ndT (z : Nd) (rest : List Nd) : List UInt8 := numB z.k.toNat ++ (if z.k = 4 then numB (chF z.dep rest) else strB z.t)
def textL : List Nd → List UInt8
  | [] => []
  | z :: zs => strB z.n ++ ndT z zs ++ textL zs
def textF : List Nd → List UInt8
  | [] => mark
  | z :: zs => mark ++ ndT z zs ++ textL zs
/-- what comes behind is no deeper -/
def Out (d : Nat) : List Nd → Prop
  | [] => True
  | z :: _ => z.dep ≤ d
theorem chF_out {d : Nat} : ∀ {l : List Nd}, Out d l → chF d l = 0
  | [], _ => rfl
  | z :: zs, h => by rw [chF, if_neg (by simp only [Out] at h; omega)]
theorem Out.up {d e : Nat} (h : d ≤ e) : ∀ {l : List Nd}, Out d l → Out e l
  | [], _ => trivial
  | z :: zs, k => by simp only [Out] at k ⊢; omega
theorem told_head (y : Tr) (nm : List UInt8) (d : Nat) (f r : Bool) (l : List Nd) : Out d (toldT y nm d f r ++ l) := by rw [toldT_eq]; exact Nat.le_refl _
theorem toldL_out (d : Nat) (p : Option (List UInt8)) : ∀ (ks : List Tr) {rest : List Nd}, Out d rest → Out d (toldL ks d p ++ rest)
  | [], rest, h => by rw [toldL_nil]; exact h
  | y :: ys, rest, h => by rw [toldL_cons, List.append_assoc]; exact told_head y _ _ _ _ _
theorem chF_told (y : Tr) : ∀ (d : Nat) (nm : List UInt8) (e : Nat) (f r : Bool) (rest : List Nd), d < e → chF d (toldT y nm e f r ++ rest) = (if e = d + 1 then 1 else 0) + chF d rest := by
  refine Tr.ind (p := fun y => ∀ (d : Nat) (nm : List UInt8) (e : Nat) (f r : Bool) (rest : List Nd), d < e → chF d (toldT y nm e f r ++ rest) = (if e = d + 1 then 1 else 0) + chF d rest) (fun y ih d nm e f r rest h => ?_) y
  rw [toldT_eq, List.cons_append, chF, if_pos h]
  congr 1
  have key : ∀ (ks : List Tr) (p : Option (List UInt8)), (∀ z ∈ ks, z ∈ y.ks) → chF d (toldL ks (e + 1) p ++ rest) = chF d rest := by
    intro ks
    induction ks with
    | nil => intro p _; rw [toldL_nil]; rfl
    | cons z zs ihz =>
      intro p hz
      rw [toldL_cons, List.append_assoc, ih z (hz z (by simp)) d _ (e + 1) _ _ _ (by omega), if_neg (by omega), ihz _ (fun w hw => hz w (by simp [hw]))]
      simp
  exact key y.ks none (fun z hz => hz)
theorem chF_kids (d : Nat) : ∀ (ks : List Tr) (p : Option (List UInt8)) {rest : List Nd}, Out d rest → chF d (toldL ks (d + 1) p ++ rest) = ks.length
  | [], p, rest, h => by rw [toldL_nil]; exact chF_out h
  | y :: ys, p, rest, h => by
    rw [toldL_cons, List.append_assoc, chF_told y d _ (d + 1) _ _ _ (by omega), if_pos rfl, chF_kids d ys _ h]
    simp; omega
theorem nd_told {x : Tr} {d : Nat} {nm : List UInt8} {f r : Bool} {rest : List Nd} (h : Out d rest) : ndT ⟨d, nm, x.k, x.t, decide (0 < x.ks.length), f, r⟩ (toldL x.ks (d + 1) none ++ rest) ++ (if x.k ≠ 4 then [] else putL x.ks) = putT x := by
  rw [putT_eq, ndT]
  simp only
  rw [chF_kids d _ _ h]
  by_cases hk : x.k = 4 <;> simp [hk]
theorem textL_told (x : Tr) : ∀ (nm : List UInt8) (d : Nat) (f r : Bool) (rest : List Nd), (chkT x d).2 = 0 → Out d rest → textL (toldT x nm d f r ++ rest) = strB nm ++ putT x ++ textL rest := by
  refine Tr.ind (p := fun x => ∀ (nm : List UInt8) (d : Nat) (f r : Bool) (rest : List Nd), (chkT x d).2 = 0 → Out d rest → textL (toldT x nm d f r ++ rest) = strB nm ++ putT x ++ textL rest) (fun x ih nm d f r rest hc h => ?_) x
  obtain ⟨h0, h1⟩ := chkT_ok hc
  obtain ⟨_, hkf, _⟩ := own0_ok h0
  have key : ∀ (ks : List Tr) (p : Option (List UInt8)), (∀ z ∈ ks, z ∈ x.ks) → textL (toldL ks (d + 1) p ++ rest) = putL ks ++ textL rest := by
    intro ks
    induction ks with
    | nil => intro p _; rw [toldL_nil]; simp [putL]
    | cons z zs ihz =>
      intro p hz
      rw [toldL_cons, List.append_assoc, ih z (hz z (by simp)) z.n (d + 1) _ _ _ (h1 z (hz z (by simp))).2 (toldL_out (d + 1) _ _ (h.up (by omega))), ihz _ (fun w hw => hz w (by simp [hw])), putL]
      simp
  rw [toldT_eq, List.cons_append, textL, key x.ks none (fun z hz => hz), ← nd_told (x := x) (nm := nm) (f := f) (r := r) h]
  by_cases hk : x.k = 4
  · simp [hk]
  · have hks : x.ks = [] := by have := hkf hk; simpa using this
    simp [hk, hks, putL]
theorem text_told {x : Tr} (hc : (chkT x 1).2 = 0) : textF (toldT x [] 1 true true) = mark ++ putT x := by
  have h := textL_told x [] 1 true true [] hc trivial
  rw [List.append_nil] at h
  rw [toldT_eq] at h ⊢
  rw [textL, textL] at h
  rw [textF]
  have e : strB [] ++ (ndT ⟨1, [], x.k, x.t, decide (0 < x.ks.length), true, true⟩ (toldL x.ks (1 + 1) none) ++ textL (toldL x.ks (1 + 1) none)) = strB [] ++ putT x := by simpa using h
  have e2 := List.append_cancel_left e
  rw [List.append_assoc, e2]
/-- how long the text is -/
theorem text_step {l : List Nd} {i : Nat} {z : Nd} (h : l[i]? = some z) (hi : 0 < i) {s : List UInt8} (hs : textF l = s ++ textL (l.drop i)) : textF l = (s ++ strB z.n ++ ndT z (l.drop (i + 1))) ++ textL (l.drop (i + 1)) := by
  have hl := (List.getElem?_eq_some_iff.1 h).1
  have e : l.drop i = z :: l.drop (i + 1) := by rw [List.drop_eq_getElem_cons hl]; congr 1; exact (List.getElem?_eq_some_iff.1 h).2
  rw [hs, e, textL]; simp
theorem text_first {l : List Nd} {z : Nd} (h : l[0]? = some z) : textF l = (mark ++ ndT z (l.drop 1)) ++ textL (l.drop 1) := by
  cases l with
  | nil => simp at h
  | cons w ws => simp at h; subst h; rw [textF]; simp
theorem be_zero {m i : Nat} (h : m < 256 ^ (8 - i)) (hn : ¬ (i < 8 ∧ 0 < m)) : m = 0 := by
  by_cases h8 : i < 8
  · omega
  · rw [show 8 - i = 0 from by omega] at h; simpa using h
theorem ch_step {z y : Nd} {l : List Nd} {i : Nat} (h : (z :: l)[i]? = some y) (hi : 1 ≤ i) (hd : z.dep < y.dep) : chF z.dep ((z :: l).drop i) = (if y.dep = z.dep + 1 then 1 else 0) + chF z.dep ((z :: l).drop (i + 1)) := by
  have hl := (List.getElem?_eq_some_iff.1 h).1
  have e : (z :: l).drop i = y :: (z :: l).drop (i + 1) := by rw [List.drop_eq_getElem_cons hl]; congr 1; exact (List.getElem?_eq_some_iff.1 h).2
  rw [e, chF, if_pos hd]
theorem ch_stop {z : Nd} {l : List Nd} {i : Nat} (hi : 1 ≤ i) (h : ∀ y, (z :: l)[i]? = some y → ¬ z.dep < y.dep) : chF z.dep ((z :: l).drop i) = 0 := by
  cases e : (z :: l).drop i with
  | nil => rfl
  | cons y ys =>
    have : (z :: l)[i]? = some y := by
      have : ((z :: l).drop i)[0]? = some y := by rw [e]; rfl
      simpa using this
    rw [chF, if_neg (h y this)]
theorem gd_of {α : Type} [Inhabited α] {l : List α} {i : Nat} {y : α} (h : l[i]? = some y) : gd l i = y := by unfold gd; rw [List.getD_eq_getElem?_getD, h]; rfl
theorem text_next {l : List Nd} {z : Nd} {i : Nat} {acc s1 s3 : List UInt8} (hz : l[i]? = some z) (hI : (i = 0 ∧ acc = mark) ∨ (0 < i ∧ textF l = acc ++ textL (l.drop i))) (h1 : s1 = acc ++ (if 0 < i then strB z.n else [])) (h3 : s3 = s1 ++ ndT z (l.drop (i + 1))) : textF l = s3 ++ textL (l.drop (i + 1)) := by
  rcases hI with ⟨rfl, rfl⟩ | ⟨hi, hI⟩
  · rw [h3, h1, if_neg (by omega), List.append_nil]; exact text_first hz
  · rw [h3, h1, if_pos hi]; exact text_step hz hi hI
theorem text_end {l : List Nd} {i : Nat} {acc : List UInt8} (hI : (i = 0 ∧ acc = mark) ∨ (0 < i ∧ textF l = acc ++ textL (l.drop i))) (hi : l.length ≤ i) : acc = textF l := by
  rcases hI with ⟨rfl, rfl⟩ | ⟨_, hI⟩
  · have : l = [] := List.length_eq_zero_iff.1 (by omega)
    subst this; rfl
  · rw [hI, List.drop_of_length_le hi]; simp [textL]
theorem wr_bad {x : Tr} (h : chkE x ≠ 0) : wrS x = [] ∧ wrE x = chkE x := ⟨by unfold wrS; rw [if_neg (fun q => h q.1)], by unfold wrE; rw [if_pos h]⟩
theorem wr_big {x : Tr} (h : chkE x = 0) (k : 32768 < 4 + (putT x).length) : wrS x = [] ∧ wrE x = 5 := ⟨by unfold wrS; rw [if_neg (fun q => by omega)], by unfold wrE; rw [if_neg (fun q => q h), if_pos k]⟩
theorem wr_ok {x : Tr} (h : chkE x = 0) (k : ¬ 32768 < 4 + (putT x).length) : wrS x = mark ++ putT x ∧ wrE x = 0 := ⟨by unfold wrS; rw [if_pos ⟨h, by omega⟩], by unfold wrE; rw [if_neg (fun q => q h), if_neg k]⟩
theorem be_64 {m i : Nat} (h : m < 256 ^ (8 - i)) : m < 18446744073709551616 := by
  have : 256 ^ (8 - i) ≤ 256 ^ 8 := Nat.pow_le_pow_right (by decide) (by omega)
  omega


end Cv
set_option maxRecDepth 10000
namespace Cv
open Go Go.Proofs
/-! ## bytes read -/
structure Bl where
  left : List UInt8
  err : Int
@[reducible] def blR (b : Bl) : List Value := [S b.left, .int .i64 b.err]
def failB (b : Bl) (e : Int) : Bl := if b.err = 0 then ⟨[], e⟩ else b
def bytB (b : Bl) (n : Int) : List UInt8 × Bl := if b.err ≠ 0 then ([], b) else if n < 0 ∨ (b.left.length : Int) < n then ([], ⟨[], 1⟩) else (b.left.take n.toNat, ⟨b.left.drop n.toNat, 0⟩)
def beV (s : List UInt8) : Nat := s.foldl (fun v c => v * 256 + c.toNat) 0
def numR (b : Bl) : Nat × Bl :=
  if (bytB b 1).2.err ≠ 0 then (0, (bytB b 1).2)
  else if 8 < ((bytB b 1).1.getD 0 0).toNat then (0, ⟨[], 2⟩)
  else if (bytB (bytB b 1).2 ((bytB b 1).1.getD 0 0).toNat).2.err ≠ 0 then (0, (bytB (bytB b 1).2 ((bytB b 1).1.getD 0 0).toNat).2)
  else if (bytB (bytB b 1).2 ((bytB b 1).1.getD 0 0).toNat).1 ≠ [] ∧ (bytB (bytB b 1).2 ((bytB b 1).1.getD 0 0).toNat).1.getD 0 0 = 0 then (0, ⟨[], 2⟩)
  else (beV (bytB (bytB b 1).2 ((bytB b 1).1.getD 0 0).toNat).1, (bytB (bytB b 1).2 ((bytB b 1).1.getD 0 0).toNat).2)
def intR (b : Bl) (top : Nat) : Nat × Bl := if (numR b).2.err ≠ 0 then (0, (numR b).2) else if top < (numR b).1 then (0, ⟨[], 5⟩) else numR b
def strR (b : Bl) (top : Nat) : List UInt8 × Bl := bytB (intR b top).2 (intR b top).1
def closeE (b : Bl) : Int := if b.err = 0 ∧ b.left ≠ [] then 2 else b.err
theorem byt_bad {b : Bl} {n : Int} (h : b.err ≠ 0) : bytB b n = ([], b) := by unfold bytB; rw [if_pos h]
theorem byt_out {b : Bl} {n : Int} (h : b.err = 0) (k : n < 0 ∨ (b.left.length : Int) < n) : bytB b n = ([], ⟨[], 1⟩) := by unfold bytB; rw [if_neg (fun q => q h), if_pos k]
theorem byt_ok {b : Bl} {n : Int} (h : b.err = 0) (k : ¬ (n < 0 ∨ (b.left.length : Int) < n)) : bytB b n = (b.left.take n.toNat, ⟨b.left.drop n.toNat, 0⟩) := by unfold bytB; rw [if_neg (fun q => q h), if_neg k]
theorem byt_len {b : Bl} {n : Int} (hn : 0 ≤ n) (h : (bytB b n).2.err = 0) : ((bytB b n).1.length : Int) = n ∧ b.err = 0 := by
  unfold bytB at h ⊢
  split at h
  · rename_i h1; exact absurd h h1
  · rename_i h1
    split at h
    · cases h
    · rename_i h2
      rw [if_neg h1, if_neg h2]
      simp only [List.length_take]
      omega
theorem byt_le {b : Bl} {n : Int} : (bytB b n).1.length ≤ b.left.length ∧ (bytB b n).2.left.length ≤ b.left.length := by
  unfold bytB
  split
  · simp
  · split
    · simp
    · simp only [List.length_take, List.length_drop]; omega
theorem beV_snoc (s : List UInt8) (c : UInt8) : beV (s ++ [c]) = beV s * 256 + c.toNat := by unfold beV; rw [List.foldl_append]; rfl
theorem beV_lt : ∀ (k : Nat) (s : List UInt8), s.length ≤ k → beV s < 256 ^ s.length
  | 0, s, h => by have : s = [] := List.length_eq_zero_iff.1 (by omega); subst this; decide
  | k + 1, s, h => by
    by_cases hs : s = []
    · subst hs; decide
    · have e := List.dropLast_concat_getLast hs
      obtain ⟨t, c, rfl⟩ : ∃ t c, s = t ++ [c] := ⟨_, _, e.symm⟩
      rw [List.length_append] at h
      have := beV_lt k t (by simp at h; omega)
      have hc := c.toNat_lt
      rw [beV_snoc, List.length_append]
      simp only [List.length_cons, List.length_nil, Nat.zero_add, Nat.pow_succ]
      omega
theorem beV_8 {s : List UInt8} {k : Nat} (h : s.length ≤ k) (hk : k ≤ 7) : beV s < 72057594037927936 := by
  have := beV_lt _ s (Nat.le_refl _)
  have h2 : 256 ^ s.length ≤ 256 ^ 7 := Nat.pow_le_pow_right (by decide) (by omega)
  omega
theorem beV_64 {s : List UInt8} (h : s.length ≤ 8) : beV s < 18446744073709551616 := by
  have := beV_lt _ s (Nat.le_refl _)
  have h2 : 256 ^ s.length ≤ 256 ^ 8 := Nat.pow_le_pow_right (by decide) (by omega)
  omega
theorem num_1 {b : Bl} (h : (bytB b 1).2.err ≠ 0) : numR b = (0, (bytB b 1).2) := by unfold numR; rw [if_pos h]
theorem num_2 {b : Bl} (h : (bytB b 1).2.err = 0) (h2 : 8 < ((bytB b 1).1.getD 0 0).toNat) : numR b = (0, ⟨[], 2⟩) := by unfold numR; rw [if_neg (fun q => q h), if_pos h2]
theorem num_3 {b : Bl} (h : (bytB b 1).2.err = 0) (h2 : ¬ 8 < ((bytB b 1).1.getD 0 0).toNat) (h3 : (bytB (bytB b 1).2 ((bytB b 1).1.getD 0 0).toNat).2.err ≠ 0) : numR b = (0, (bytB (bytB b 1).2 ((bytB b 1).1.getD 0 0).toNat).2) := by unfold numR; rw [if_neg (fun q => q h), if_neg h2, if_pos h3]
theorem num_4 {b : Bl} (h : (bytB b 1).2.err = 0) (h2 : ¬ 8 < ((bytB b 1).1.getD 0 0).toNat) (h3 : (bytB (bytB b 1).2 ((bytB b 1).1.getD 0 0).toNat).2.err = 0) (h4 : (bytB (bytB b 1).2 ((bytB b 1).1.getD 0 0).toNat).1 ≠ [] ∧ (bytB (bytB b 1).2 ((bytB b 1).1.getD 0 0).toNat).1.getD 0 0 = 0) : numR b = (0, ⟨[], 2⟩) := by unfold numR; rw [if_neg (fun q => q h), if_neg h2, if_neg (fun q => q h3), if_pos h4]
theorem num_5 {b : Bl} (h : (bytB b 1).2.err = 0) (h2 : ¬ 8 < ((bytB b 1).1.getD 0 0).toNat) (h3 : (bytB (bytB b 1).2 ((bytB b 1).1.getD 0 0).toNat).2.err = 0) (h4 : ¬ ((bytB (bytB b 1).2 ((bytB b 1).1.getD 0 0).toNat).1 ≠ [] ∧ (bytB (bytB b 1).2 ((bytB b 1).1.getD 0 0).toNat).1.getD 0 0 = 0)) : numR b = (beV (bytB (bytB b 1).2 ((bytB b 1).1.getD 0 0).toNat).1, (bytB (bytB b 1).2 ((bytB b 1).1.getD 0 0).toNat).2) := by unfold numR; rw [if_neg (fun q => q h), if_neg h2, if_neg (fun q => q h3), if_neg h4]
theorem int_1 {b : Bl} {top : Nat} (h : (numR b).2.err ≠ 0) : intR b top = (0, (numR b).2) := by unfold intR; rw [if_pos h]
theorem int_2 {b : Bl} {top : Nat} (h : (numR b).2.err = 0) (k : top < (numR b).1) : intR b top = (0, ⟨[], 5⟩) := by unfold intR; rw [if_neg (fun q => q h), if_pos k]
theorem int_3 {b : Bl} {top : Nat} (h : (numR b).2.err = 0) (k : ¬ top < (numR b).1) : intR b top = numR b := by unfold intR; rw [if_neg (fun q => q h), if_neg k]
theorem int_le (b : Bl) (top : Nat) : (intR b top).1 ≤ top := by
  unfold intR; split
  · simp
  · split
    · simp
    · omega
theorem num_64 (b : Bl) : (numR b).1 < 18446744073709551616 := by
  unfold numR
  split
  · show (0 : Nat) < 18446744073709551616; decide
  · split
    · show (0 : Nat) < 18446744073709551616; decide
    · rename_i h2
      split
      · show (0 : Nat) < 18446744073709551616; decide
      · rename_i h3
        split
        · show (0 : Nat) < 18446744073709551616; decide
        · refine beV_64 ?_
          have := (byt_len (b := (bytB b 1).2) (n := ((bytB b 1).1.getD 0 0).toNat) (by omega) (by simpa using h3)).1
          omega
theorem num_le (b : Bl) : (numR b).2.left.length ≤ b.left.length := by
  have h1 := byt_le (b := b) (n := 1)
  have h2 := byt_le (b := (bytB b 1).2) (n := ((bytB b 1).1.getD 0 0).toNat)
  unfold numR
  split
  · exact h1.2
  · split
    · simp
    · split
      · simp only; omega
      · split
        · simp
        · simp only; omega
theorem int_left (b : Bl) (top : Nat) : (intR b top).2.left.length ≤ b.left.length := by
  have := num_le b
  unfold intR; split
  · exact this
  · split
    · simp
    · exact this
theorem str_le (b : Bl) (top : Nat) : (strR b top).1.length ≤ b.left.length ∧ (strR b top).2.left.length ≤ b.left.length := by
  have h1 := int_left b top
  have h2 := byt_le (b := (intR b top).2) (n := (intR b top).1)
  unfold strR
  omega
/-- the top bits and the low ones -/
theorem or_byte (v c : Nat) (h : c < 256) : (v * 256) ||| c = v * 256 + c := by
  have := Nat.two_pow_add_eq_or_of_lt (i := 8) (b := c) (by simpa using h) v
  rw [Nat.mul_comm, ← this]
theorem bitsOr_u64 {a b : Nat} (ha : a < 18446744073709551616) (hb : b < 18446744073709551616) : bitsOr .u64 (a : Int) (b : Int) = ((a ||| b : Nat) : Int) := by
  unfold bitsOr
  have e : ∀ c : Nat, c < 18446744073709551616 → (BitVec.ofInt IntKind.u64.bits (c : Int)).toNat = c := fun c hc => by
    simp only [IntKind.bits, BitVec.toNat_ofInt]
    have : ((c : Int) % ((2 ^ 64 : Nat) : Int)) = c := Int.emod_eq_of_lt (by omega) (by rw [show ((2 ^ 64 : Nat) : Int) = 18446744073709551616 from by decide]; omega)
    rw [this]; simp
  rw [BitVec.toNat_or, e a ha, e b hb]
  refine wrap_u64 (by omega) ?_
  have := Nat.or_lt_two_pow (n := 64) (x := a) (y := b) (by simpa using ha) (by simpa using hb)
  omega
theorem shl8 {v : Nat} (h : v < 72057594037927936) : IntKind.u64.wrap ((v : Int) * 2 ^ (min (8 : Int).toNat IntKind.u64.bits)) = ((v * 256 : Nat) : Int) := by
  show IntKind.u64.wrap ((v : Int) * 256) = _
  rw [wrap_u64 (by omega) (by omega)]; omega
theorem byt_1 {b b1 : Bl} {n : Nat} (h1 : b1 = if (b.left.length : Int) < n then failB b 1 else b) (h : b1.err ≠ 0) : bytB b n = ([], b1) := by
  by_cases hb : b.err = 0
  · by_cases hn : (b.left.length : Int) < n
    · rw [byt_out hb (.inr hn), h1, if_pos hn, failB, if_pos hb]
    · rw [if_neg hn] at h1; subst h1; exact absurd hb h
  · rw [byt_bad hb, h1]
    split
    · rw [failB, if_neg hb]
    · rfl
theorem byt_2 {b b1 : Bl} {n : Nat} (h1 : b1 = if (b.left.length : Int) < n then failB b 1 else b) (h : b1.err = 0) : b1 = b ∧ n ≤ b.left.length ∧ bytB b n = (b.left.take n, ⟨b.left.drop n, b.err⟩) := by
  by_cases hn : (b.left.length : Int) < n
  · rw [if_pos hn, failB] at h1
    split at h1
    · subst h1; cases h
    · rename_i hb; subst h1; exact absurd h hb
  · rw [if_neg hn] at h1
    subst h1
    refine ⟨rfl, by omega, ?_⟩
    rw [byt_ok h (by omega), h]; simp
theorem byt_nil {b : Bl} {n : Int} (h : (bytB b n).2.err ≠ 0) : (bytB b n).1 = [] := by
  unfold bytB at h ⊢
  split
  · rfl
  · split
    · rfl
    · rename_i h1 h2; rw [if_neg h1, if_neg h2] at h; exact absurd rfl h
theorem byt_lenN {b : Bl} {n : Nat} : (bytB b n).1.length ≤ n := by
  unfold bytB
  split
  · simp
  · split
    · simp
    · simp only [List.length_take]; omega
theorem num_all {b b2 b3 : Bl} (h : (bytB b 1).2.err = 0) (h2 : b2 = if 8 < ((bytB b 1).1.getD 0 0).toNat then failB (bytB b 1).2 2 else (bytB b 1).2) (h3 : b3 = if (bytB b2 (min ((bytB b 1).1.getD 0 0).toNat 8 : Nat)).1 ≠ [] ∧ (bytB b2 (min ((bytB b 1).1.getD 0 0).toNat 8 : Nat)).1.getD 0 0 = 0 then failB (bytB b2 (min ((bytB b 1).1.getD 0 0).toNat 8 : Nat)).2 2 else (bytB b2 (min ((bytB b 1).1.getD 0 0).toNat 8 : Nat)).2) :
    numR b = if b3.err ≠ 0 then (0, b3) else (beV (bytB b2 (min ((bytB b 1).1.getD 0 0).toNat 8 : Nat)).1, b3) := by
  by_cases hn : 8 < ((bytB b 1).1.getD 0 0).toNat
  · rw [if_pos hn, failB, if_pos h] at h2
    have hq := byt_bad (b := b2) (n := (min ((bytB b 1).1.getD 0 0).toNat 8 : Nat)) (by rw [h2]; decide)
    rw [hq] at h3
    rw [if_neg (fun q => q.1 rfl)] at h3
    rw [num_2 h hn, h3, if_pos (by rw [h2]; decide), h2]
  · rw [if_neg hn] at h2
    rw [show min ((bytB b 1).1.getD 0 0).toNat 8 = ((bytB b 1).1.getD 0 0).toNat from by omega] at h3 ⊢
    subst h2
    by_cases he : (bytB (bytB b 1).2 ((bytB b 1).1.getD 0 0).toNat).2.err = 0
    · by_cases hz : (bytB (bytB b 1).2 ((bytB b 1).1.getD 0 0).toNat).1 ≠ [] ∧ (bytB (bytB b 1).2 ((bytB b 1).1.getD 0 0).toNat).1.getD 0 0 = 0
      · rw [if_pos hz, failB, if_pos he] at h3
        rw [num_4 h hn he hz, h3, if_pos (show (2 : Int) ≠ 0 from by decide)]
      · rw [if_neg hz] at h3
        rw [num_5 h hn he hz, h3, if_neg (fun q => q he)]
    · rw [if_neg (fun q => q.1 (byt_nil he))] at h3
      rw [num_3 h hn he, h3, if_pos he]
theorem int_all {b b2 : Bl} {top : Nat} (h2 : b2 = if (numR b).2.err = 0 ∧ top < (numR b).1 then failB (numR b).2 5 else (numR b).2) : intR b top = if b2.err ≠ 0 then (0, b2) else ((numR b).1, b2) := by
  by_cases h : (numR b).2.err = 0
  · by_cases k : top < (numR b).1
    · rw [if_pos ⟨h, k⟩, failB, if_pos h] at h2
      rw [int_2 h k, h2, if_pos (show (5 : Int) ≠ 0 from by decide)]
    · rw [if_neg (fun q => k q.2)] at h2
      rw [int_3 h k, h2, if_neg (fun q => q h)]
  · rw [if_neg (fun q => h q.1)] at h2
    rw [int_1 h, h2, if_pos h]
theorem close_eq {b b1 : Bl} (h : b1 = if b.left ≠ [] then failB b 2 else b) : b1.err = closeE b := by
  unfold closeE
  by_cases h1 : b.left ≠ []
  · rw [if_pos h1, failB] at h
    by_cases h2 : b.err = 0
    · rw [if_pos h2] at h; rw [if_pos ⟨h2, h1⟩, h]
    · rw [if_neg h2] at h; rw [if_neg (fun q => h2 q.1), h]
  · rw [if_neg h1] at h; rw [if_neg (fun q => h1 q.2), h]
theorem gd_first {l : List UInt8} (h : l ≠ []) : l[0]? = some (l.getD 0 0) := by
  cases l with
  | nil => exact absurd rfl h
  | cons a l => rfl
theorem u8_zero {c : UInt8} : ((c.toNat : Int) = 0) ↔ c = 0 := ⟨fun h => UInt8.toNat.inj (by simpa using h), fun h => by rw [h]; rfl⟩
theorem zero_arm {q : List UInt8} {w : Bool} (hq : q ≠ []) (h : w = decide (((q.getD 0 0).toNat : Int) = 0)) : w = true ↔ (q ≠ [] ∧ q.getD 0 0 = 0) := by
  rw [h, decide_eq_true_eq, u8_zero]; exact ⟨fun e => ⟨hq, e⟩, fun e => e.2⟩


end Cv
set_option maxRecDepth 10000
namespace Cv
open Go Go.Proofs
/-! ## items read -/
def loopF (rec : Int → Bl → Tr × Int × Bl) : Nat → Int → Bl → List Tr × Int × Bl
  | 0, l, b => ([], l, b)
  | n + 1, l, b => if b.err = 0 then (((rec l (strR b 24).2).1.named (strR b 24).1) :: (loopF rec n (rec l (strR b 24).2).2.1 (rec l (strR b 24).2).2.2).1, (loopF rec n (rec l (strR b 24).2).2.1 (rec l (strR b 24).2).2.2).2) else ([], l, b)
def kindB (d : Nat) (l : Int) (b : Bl) : Bl := if l - 1 < 0 ∨ 8 < d then failB (intR b 4).2 5 else (intR b 4).2
def kindC (d : Nat) (l : Int) (b : Bl) : Bl := if (kindB d l b).err = 0 ∧ (intR b 4).1 < 1 then failB (kindB d l b) 2 else kindB d l b
def itemF : Nat → Nat → Int → Bl → Tr × Int × Bl
  | 0, d, l, b => (.mk [] 0 [] [], l, b)
  | f + 1, d, l, b =>
    if (intR b 4).1 ≠ 4 then (.mk [] (intR b 4).1 (strR (kindC d l b) 8192).1 [], l - 1, (strR (kindC d l b) 8192).2)
    else (.mk [] 4 [] (loopF (itemF f (d + 1)) (intR (kindC d l b) 64).1 (l - 1) (intR (kindC d l b) 64).2).1, (loopF (itemF f (d + 1)) (intR (kindC d l b) 64).1 (l - 1) (intR (kindC d l b) 64).2).2)
theorem num_bad {b : Bl} (h : b.err ≠ 0) : numR b = (0, b) := by
  rw [num_1 (by rw [byt_bad h]; exact h), byt_bad h]
theorem int_bad {b : Bl} {top : Nat} (h : b.err ≠ 0) : intR b top = (0, b) := by rw [int_1 (by rw [num_bad h]; exact h), num_bad h]
theorem str_bad {b : Bl} {top : Nat} (h : b.err ≠ 0) : strR b top = ([], b) := by unfold strR; rw [int_bad h, byt_bad h]
theorem int_stick {b : Bl} {top : Nat} (h : (intR b top).2.err = 0) : b.err = 0 := by
  by_cases hb : b.err = 0
  · exact hb
  · rw [int_bad hb] at h; exact absurd h hb
theorem str_stick {b : Bl} {top : Nat} (h : (strR b top).2.err = 0) : b.err = 0 := by
  by_cases hb : b.err = 0
  · exact hb
  · rw [str_bad hb] at h; exact absurd h hb
theorem fail_stick {b : Bl} {e : Int} (he : e ≠ 0) : (failB b e).err ≠ 0 := by
  unfold failB; split
  · exact he
  · assumption
theorem kind_stick {d : Nat} {l : Int} {b : Bl} (h : (kindC d l b).err = 0) : b.err = 0 ∧ 1 ≤ l ∧ d ≤ 8 ∧ 1 ≤ (intR b 4).1 ∧ kindC d l b = (intR b 4).2 := by
  have h1 : ¬ ((kindB d l b).err = 0 ∧ (intR b 4).1 < 1) := fun q => by
    unfold kindC at h; rw [if_pos q] at h; exact fail_stick (by decide) h
  have e1 : kindC d l b = kindB d l b := by unfold kindC; rw [if_neg h1]
  rw [e1] at h
  have h2 : ¬ (l - 1 < 0 ∨ 8 < d) := fun q => by
    unfold kindB at h; rw [if_pos q] at h; exact fail_stick (by decide) h
  have e2 : kindB d l b = (intR b 4).2 := by unfold kindB; rw [if_neg h2]
  rw [e2] at h
  exact ⟨int_stick h, by omega, by omega, Nat.le_of_not_lt fun q => h1 ⟨by rw [e2]; exact h, q⟩, by rw [e1, e2]⟩
theorem str_top {b : Bl} {top : Nat} : (strR b top).1.length ≤ top := by
  have h1 := int_le b top
  have h2 := byt_lenN (b := (intR b top).2) (n := (intR b top).1)
  unfold strR
  omega
/-- what an item read is -/
structure ItR (d : Nat) (l : Int) (b : Bl) (r : Tr × Int × Bl) : Prop where
  cnt : (r.1.count : Int) = l - r.2.1
  low : 0 ≤ l → -1 ≤ r.2.1 ∧ (r.2.1 = -1 → r.2.2.err ≠ 0)
  stick : r.2.2.err = 0 → b.err = 0
  sm : TAll Sm r.1 ∧ r.1.t.length ≤ 20000
structure LpR (n : Nat) (l : Int) (b : Bl) (r : List Tr × Int × Bl) : Prop where
  cnt : (countL r.1 : Int) = l - r.2.1
  low : 0 ≤ l ∨ b.err ≠ 0 ∧ -1 ≤ l → -1 ≤ r.2.1 ∧ (r.2.1 = -1 → r.2.2.err ≠ 0)
  stick : r.2.2.err = 0 → b.err = 0
  sm : ∀ y ∈ r.1, Sm y ∧ TAll Sm y
  len : r.1.length ≤ n
theorem tall_named {p : Tr → Prop} {y : Tr} {m : List UInt8} (h : TAll p y) : TAll p (y.named m) := .of (fun w hw => h.kid hw)
theorem loop_ok {rec : Int → Bl → Tr × Int × Bl} (h : ∀ l b, ∃ d, ItR d l b (rec l b)) : ∀ n l b, LpR n l b (loopF rec n l b)
  | 0, l, b => ⟨by simp [loopF, countL], fun q => by
      rcases q with q | ⟨q1, q2⟩
      · exact ⟨by simp only [loopF]; omega, fun e => by simp only [loopF] at e; omega⟩
      · exact ⟨by simp only [loopF]; omega, fun _ => q1⟩, fun q => q, fun y hy => by simp [loopF] at hy, by simp [loopF]⟩
  | n + 1, l, b => by
    by_cases hb : b.err = 0
    · rw [loopF, if_pos hb]
      obtain ⟨d, h1⟩ := h l (strR b 24).2
      have h2 := loop_ok h n (rec l (strR b 24).2).2.1 (rec l (strR b 24).2).2.2
      refine ⟨?_, fun q => ?_, fun _ => hb, fun y hy => ?_, by have := h2.len; simp only [List.length_cons]; omega⟩
      · have c1 := h1.cnt
        have c2 := h2.cnt
        simp only [countL, count_named]
        omega
      · have hl : 0 ≤ l := by rcases q with q | ⟨q1, _⟩; exact q; exact absurd hb q1
        have k1 := h1.low hl
        refine h2.low ?_
        by_cases e : (rec l (strR b 24).2).2.1 = -1
        · exact .inr ⟨k1.2 e, k1.1⟩
        · exact .inl (by omega)
      · rcases List.mem_cons.1 hy with rfl | hy
        · have := str_top (b := b) (top := 24)
          exact ⟨⟨by show (strR b 24).1.length ≤ 20000; omega, h1.sm.2⟩, tall_named h1.sm.1⟩
        · exact h2.sm y hy
    · rw [loopF, if_neg hb]
      refine ⟨by simp [countL], fun q => ?_, fun q => q, fun y hy => by simp at hy, by simp⟩
      rcases q with q | ⟨q1, q2⟩
      · exact ⟨by simp only; omega, fun _ => hb⟩
      · exact ⟨q2, fun _ => hb⟩
theorem kind_low {d : Nat} {l : Int} {b : Bl} (h : l - 1 < 0) : (kindC d l b).err ≠ 0 := fun q => by have := kind_stick q; omega
theorem item_ok : ∀ (f d : Nat) (l : Int) (b : Bl), 1 ≤ f → d + f = 10 → ItR d l b (itemF f d l b)
  | f + 1, d, l, b, _, hd => by
    rw [itemF]
    by_cases hk : (intR b 4).1 ≠ 4
    · rw [if_pos hk]
      have ht := str_top (b := kindC d l b) (top := 8192)
      refine ⟨by simp only [Tr.count_eq, Tr.ks, countL]; omega, fun hl => ⟨by simp only; omega, fun e => ?_⟩, fun e => (kind_stick (str_stick e)).1, tall_leaf, by show (strR (kindC d l b) 8192).1.length ≤ 20000; omega⟩
      simp only at e ⊢
      have hb := kind_low (d := d) (b := b) (show l - 1 < 0 by omega)
      rw [str_bad hb]; exact hb
    · rw [if_neg hk]
      by_cases hc : (kindC d l b).err = 0
      · obtain ⟨hb, hl1, hd8, _, _⟩ := kind_stick hc
        have h2 := loop_ok (rec := itemF f (d + 1)) (fun l b => ⟨d + 1, item_ok f (d + 1) l b (by omega) (by omega)⟩) (intR (kindC d l b) 64).1 (l - 1) (intR (kindC d l b) 64).2
        refine ⟨?_, fun _ => h2.low (.inl (by omega)), fun _ => hb, .of h2.sm, by simp [Tr.t]⟩
        have := h2.cnt
        simp only [Tr.count_eq, Tr.ks]
        omega
      · rw [int_bad hc]
        simp only [loopF]
        refine ⟨by simp only [Tr.count_eq, Tr.ks, countL]; omega, fun hl => ⟨by show -1 ≤ l - 1; omega, fun _ => hc⟩, fun e => absurd e hc, tall_leaf, by simp [Tr.t]⟩
/-- how far the entries are read -/
structure LI (rec : Int → Bl → Tr × Int × Bl) (n : Nat) (l0 : Int) (b0 : Bl) (m : Nat) (l : Int) (b : Bl) (acc : List ET) : Prop where
  eq : loopF rec n l0 b0 = (acc.map (·.1) ++ (loopF rec m l b).1, (loopF rec m l b).2)
  low : -1 ≤ l ∧ (l = -1 → b.err ≠ 0) ∧ l ≤ 1000000
  len : acc.length + m ≤ n
theorem LI.zero {rec : Int → Bl → Tr × Int × Bl} {n : Nat} {l0 : Int} {b0 : Bl} (h : -1 ≤ l0 ∧ (l0 = -1 → b0.err ≠ 0) ∧ l0 ≤ 1000000) : LI rec n l0 b0 n l0 b0 [] := ⟨by simp, h, by simp⟩
theorem LI.step {rec : Int → Bl → Tr × Int × Bl} {n m : Nat} {l0 l : Int} {b0 b : Bl} {acc : List ET} (h : LI rec n l0 b0 m l b acc) (hm : 0 < m) (hb : b.err = 0) {d : Nat} (hr : ItR d l (strR b 24).2 (rec l (strR b 24).2)) {a : Option Addr} {ln c : Nat} : LI rec n l0 b0 (m - 1) (rec l (strR b 24).2).2.1 (rec l (strR b 24).2).2.2 (acc ++ [((rec l (strR b 24).2).1.named (strR b 24).1, a, ln, c)]) := by
  obtain ⟨k, rfl⟩ : ∃ k, m = k + 1 := ⟨m - 1, by omega⟩
  have hl : 0 ≤ l := by have := h.low; by_cases e : l = -1; exact absurd hb (this.2.1 e); omega
  have k1 := hr.low hl
  have k2 := hr.cnt
  refine ⟨?_, ⟨k1.1, k1.2, by have := h.low.2.2; omega⟩, by have := h.len; simp only [List.length_append, List.length_cons, List.length_nil]; omega⟩
  rw [h.eq, loopF, if_pos hb]
  simp
theorem LI.stop {rec : Int → Bl → Tr × Int × Bl} {n m : Nat} {l0 l : Int} {b0 b : Bl} {acc : List ET} (h : LI rec n l0 b0 m l b acc) (hn : ¬ (0 < m ∧ b.err = 0)) : loopF rec n l0 b0 = (acc.map (·.1), l, b) := by
  rw [h.eq]
  cases m with
  | zero => simp [loopF]
  | succ m => rw [loopF, if_neg (fun q => hn ⟨by omega, q⟩)]; simp
theorem item_file {f d : Nat} {l : Int} {b : Bl} (h : (intR b 4).1 ≠ 4) : itemF (f + 1) d l b = (.mk [] (intR b 4).1 (strR (kindC d l b) 8192).1 [], l - 1, (strR (kindC d l b) 8192).2) := by rw [itemF, if_pos h]
theorem item_dir {f d : Nat} {l : Int} {b : Bl} (h : ¬ (intR b 4).1 ≠ 4) : itemF (f + 1) d l b = (.mk [] 4 [] (loopF (itemF f (d + 1)) (intR (kindC d l b) 64).1 (l - 1) (intR (kindC d l b) 64).2).1, (loopF (itemF f (d + 1)) (intR (kindC d l b) 64).1 (l - 1) (intR (kindC d l b) 64).2).2) := by rw [itemF, if_neg h]
theorem kind_pos {d : Nat} {l : Int} {b : Bl} (h : 0 < (intR (kindC d l b) 64).1) : (kindC d l b).err = 0 := by
  by_cases hc : (kindC d l b).err = 0
  · exact hc
  · rw [int_bad hc] at h; exact absurd h (Nat.lt_irrefl _)


end Cv
set_option maxRecDepth 10000
namespace Cv
open Go Go.Proofs
/-! ## what is written is read, what is read is written -/
theorem ofNat_toNat {n : Nat} (h : n < 256) : (UInt8.ofNat n).toNat = n := by simp; omega
theorem beV_beB : ∀ n : Nat, beV (beB n) = n := by
  intro n
  induction n using Nat.strongRecOn with
  | _ n ih =>
    by_cases h : n = 0
    · rw [h, beB_0]; rfl
    · rw [beB_pos (by omega), beV_snoc, ih (n / 256) (by omega), ofNat_toNat (by omega)]; omega
theorem beB_head : ∀ n : Nat, ∀ c, (beB n)[0]? = some c → c ≠ 0 := by
  intro n
  induction n using Nat.strongRecOn with
  | _ n ih =>
    intro c hc
    by_cases h : n = 0
    · rw [h, beB_0] at hc; simp at hc
    · rw [beB_pos (by omega)] at hc
      by_cases h2 : n / 256 = 0
      · rw [h2, beB_0] at hc
        simp at hc
        intro e
        subst hc
        have := congrArg UInt8.toNat e
        rw [ofNat_toNat (by omega)] at this
        simp at this
        omega
      · have hne : 0 < (beB (n / 256)).length := by rw [beB_pos (by omega)]; simp
        rw [List.getElem?_append_left hne] at hc
        exact ih (n / 256) (by omega) c hc
theorem beB_beV : ∀ (k : Nat) (s : List UInt8), s.length ≤ k → (∀ c, s[0]? = some c → c ≠ 0) → beB (beV s) = s
  | 0, s, h, _ => by have : s = [] := List.length_eq_zero_iff.1 (by omega); subst this; exact beB_0
  | k + 1, s, h, h0 => by
    by_cases hs : s = []
    · subst hs; exact beB_0
    · obtain ⟨t, c, rfl⟩ : ∃ t c, s = t ++ [c] := ⟨_, _, (List.dropLast_concat_getLast hs).symm⟩
      rw [List.length_append] at h
      have hc := c.toNat_lt
      have ht : ∀ e, t[0]? = some e → e ≠ 0 := fun e he => h0 e (by
        have hl := (List.getElem?_eq_some_iff.1 he).1
        rw [List.getElem?_append_left hl]; exact he)
      have ih := beB_beV k t (by simp at h; omega) ht
      have hpos : 0 < beV (t ++ [c]) := by
        rw [beV_snoc]
        by_cases e : beV t = 0
        · rw [e, beB_0] at ih
          subst ih
          have := h0 c rfl
          have : c.toNat ≠ 0 := fun q => this (UInt8.toNat.inj (by simpa using q))
          omega
        · omega
      rw [beB_pos hpos, beV_snoc, show (beV t * 256 + c.toNat) / 256 = beV t from by omega, show (beV t * 256 + c.toNat) % 256 = c.toNat from by omega, ih]
      simp
theorem byt_app {s rest : List UInt8} : bytB ⟨s ++ rest, 0⟩ s.length = (s, ⟨rest, 0⟩) := by
  rw [byt_ok rfl (by simp only [List.length_append]; omega)]
  simp
theorem byt_of {b : Bl} {n : Nat} (h : (bytB b n).2.err = 0) : b.err = 0 ∧ b.left = (bytB b n).1 ++ (bytB b n).2.left ∧ (bytB b n).2 = ⟨(bytB b n).2.left, 0⟩ := by
  have hb := (byt_len (b := b) (n := n) (by omega) h).2
  by_cases k : (n : Int) < 0 ∨ (b.left.length : Int) < n
  · rw [byt_out hb k] at h; cases h
  · rw [byt_ok hb k]; exact ⟨hb, by simp, rfl⟩
theorem num_put {n : Nat} {rest : List UInt8} (hn : n < 18446744073709551616) : numR ⟨numB n ++ rest, 0⟩ = (n, ⟨rest, 0⟩) := by
  have hl := beB_len 8 n (by simpa using hn)
  have e1 : bytB ⟨numB n ++ rest, 0⟩ 1 = ([UInt8.ofNat (beB n).length], ⟨beB n ++ rest, 0⟩) := by
    have := byt_app (s := [UInt8.ofNat (beB n).length]) (rest := beB n ++ rest)
    simpa [numB] using this
  have e2 : ((bytB ⟨numB n ++ rest, 0⟩ 1).1.getD 0 0).toNat = (beB n).length := by rw [e1]; exact ofNat_toNat (by omega)
  have e3 : bytB (bytB ⟨numB n ++ rest, 0⟩ 1).2 ((bytB ⟨numB n ++ rest, 0⟩ 1).1.getD 0 0).toNat = (beB n, ⟨rest, 0⟩) := by rw [e2, e1]; exact byt_app
  rw [num_5 (by rw [e1]) (by rw [e2]; omega) (by rw [e3]) (by
    rw [e3]
    rintro ⟨h1, h2⟩
    exact beB_head n _ (gd_first h1) h2), e3, beV_beB]
theorem num_of {b : Bl} (h : (numR b).2.err = 0) : b.err = 0 ∧ b.left = numB (numR b).1 ++ (numR b).2.left ∧ (numR b).2 = ⟨(numR b).2.left, 0⟩ := by
  by_cases h1 : (bytB b 1).2.err ≠ 0
  · rw [num_1 h1] at h; exact absurd h h1
  · have h1 : (bytB b 1).2.err = 0 := Decidable.not_not.1 h1
    by_cases h2 : 8 < ((bytB b 1).1.getD 0 0).toNat
    · rw [num_2 h1 h2] at h; cases h
    · by_cases h3 : (bytB (bytB b 1).2 ((bytB b 1).1.getD 0 0).toNat).2.err ≠ 0
      · rw [num_3 h1 h2 h3] at h; exact absurd h h3
      · have h3 := Decidable.not_not.1 h3
        by_cases h4 : (bytB (bytB b 1).2 ((bytB b 1).1.getD 0 0).toNat).1 ≠ [] ∧ (bytB (bytB b 1).2 ((bytB b 1).1.getD 0 0).toNat).1.getD 0 0 = 0
        · rw [num_4 h1 h2 h3 h4] at h; cases h
        · rw [num_5 h1 h2 h3 h4]
          obtain ⟨hb, q1, q2⟩ := byt_of (b := b) (n := 1) h1
          obtain ⟨_, q3, q4⟩ := byt_of h3
          have hlen : (bytB b 1).1.length = 1 := by have := (byt_len (b := b) (n := 1) (by decide) h1).1; omega
          have hl2 := (byt_len (b := (bytB b 1).2) (n := ((bytB b 1).1.getD 0 0).toNat) (by omega) h3).1
          obtain ⟨c, hc⟩ : ∃ c, (bytB b 1).1 = [c] := List.length_eq_one_iff.1 hlen
          have hgc : (bytB b 1).1.getD 0 0 = c := by rw [hc]; rfl
          rw [hgc] at q3 q4 hl2 h4 ⊢
          refine ⟨hb, ?_, q4⟩
          show b.left = numB (beV (bytB (bytB b 1).2 c.toNat).1) ++ _
          rw [numB, beB_beV _ _ (Nat.le_refl _) (fun e he => fun e0 => h4 (by
            have hne : (bytB (bytB b 1).2 c.toNat).1 ≠ [] := fun q => by rw [q] at he; simp at he
            refine ⟨hne, ?_⟩
            rw [gd_first hne] at he
            cases he
            exact e0)), q1]
          show (bytB b 1).1 ++ (bytB b 1).2.left = _
          rw [q3, hc, show (bytB (bytB b 1).2 c.toNat).1.length = c.toNat by omega]
          simp
theorem int_put {n top : Nat} {rest : List UInt8} (hn : n ≤ top) (ht : top < 18446744073709551616) : intR ⟨numB n ++ rest, 0⟩ top = (n, ⟨rest, 0⟩) := by
  have e := num_put (n := n) (rest := rest) (by omega)
  rw [int_3 (by rw [e]) (by rw [e]; omega), e]
theorem int_of {b : Bl} {top : Nat} (h : (intR b top).2.err = 0) : b.err = 0 ∧ b.left = numB (intR b top).1 ++ (intR b top).2.left ∧ (intR b top).2 = ⟨(intR b top).2.left, 0⟩ := by
  by_cases h1 : (numR b).2.err ≠ 0
  · rw [int_1 h1] at h; exact absurd h h1
  · have h1 := Decidable.not_not.1 h1
    by_cases h2 : top < (numR b).1
    · rw [int_2 h1 h2] at h; cases h
    · rw [int_3 h1 h2]; exact num_of h1
theorem str_put {s rest : List UInt8} {top : Nat} (hs : s.length ≤ top) (ht : top < 18446744073709551616) : strR ⟨strB s ++ rest, 0⟩ top = (s, ⟨rest, 0⟩) := by
  have e := int_put (n := s.length) (top := top) (rest := s ++ rest) hs ht
  unfold strR
  rw [show strB s ++ rest = numB s.length ++ (s ++ rest) from by unfold strB; simp, e]
  exact byt_app
theorem str_of {b : Bl} {top : Nat} (h : (strR b top).2.err = 0) : b.err = 0 ∧ b.left = strB (strR b top).1 ++ (strR b top).2.left ∧ (strR b top).2 = ⟨(strR b top).2.left, 0⟩ := by
  unfold strR at h ⊢
  obtain ⟨k1, k2, k3⟩ := byt_of h
  obtain ⟨k4, k5, _⟩ := int_of k1
  have hl := (byt_len (b := (intR b top).2) (n := (intR b top).1) (by omega) h).1
  refine ⟨k4, ?_, k3⟩
  rw [k5, k2, strB]
  rw [show (bytB (intR b top).2 (intR b top).1).1.length = (intR b top).1 by omega]
  simp
/-- a tree written is read -/
theorem item_put : ∀ (f d : Nat) (x : Tr) (l : Int) (rest : List UInt8), d + f = 10 → (chkT x d).2 = 0 → 1 ≤ d → (x.count : Int) ≤ l → x.count ≤ 64 → itemF f d l ⟨putT x ++ rest, 0⟩ = (x.named [], l - x.count, ⟨rest, 0⟩)
  | 0, d, x, l, rest, hd, hc, _, _, _ => by obtain ⟨h0, _⟩ := chkT_ok hc; have := (own0_ok h0).2.2.2.2.1; omega
  | f + 1, d, x, l, rest, hd, hc, h1d, hl, h64 => by
    obtain ⟨h0, h1⟩ := chkT_ok hc
    obtain ⟨hk, hkf, hkt, ht, hd8, _⟩ := own0_ok h0
    have hp := count_pos x
    have hce := x.count_eq
    have hcl := count_le_len x.ks
    have key : ∀ (ks : List Tr), (∀ y ∈ ks, y ∈ x.ks) → ∀ (l : Int) (rest : List UInt8), (countL ks : Int) ≤ l → loopF (itemF f (d + 1)) ks.length l ⟨putL ks ++ rest, 0⟩ = (ks, l - countL ks, ⟨rest, 0⟩) := by
      intro ks
      induction ks with
      | nil => intro _ l rest _; simp [loopF, putL, countL]
      | cons y ys ihy =>
        intro hm l rest hl
        simp only [countL] at hl
        have hy : y ∈ x.ks := hm y (by simp)
        have hn := nameB_len (h1 y hy).1
        have hcy := count_mem hy
        have e1 := str_put (s := y.n) (top := 24) (rest := putT y ++ (putL ys ++ rest)) hn (by decide)
        have e2 := item_put f (d + 1) y l (putL ys ++ rest) (by omega) (h1 y hy).2 (by omega) (by omega) (by omega)
        have e0 : putL (y :: ys) ++ rest = strB y.n ++ (putT y ++ (putL ys ++ rest)) := by simp [putL]
        rw [List.length_cons, loopF, if_pos rfl, e0, e1]
        simp only
        rw [e2]
        simp only
        rw [ihy (fun z hz => hm z (by simp [hz])) (l - y.count) rest (by omega)]
        refine Prod.ext ?_ (Prod.ext ?_ rfl)
        · show ((y.named []).named y.n) :: ys = y :: ys
          rw [show (y.named []).named y.n = y from (Tr.eta y).symm]
        · simp only [countL]; omega
    have hkn : ((x.k.toNat : Nat) : Int) = x.k := by omega
    by_cases hk4 : x.k = 4
    · have ep : putT x ++ rest = numB x.k.toNat ++ (numB x.ks.length ++ (putL x.ks ++ rest)) := by rw [putT_eq, if_neg (fun q => q hk4)]; simp
      have e1 := int_put (n := x.k.toNat) (top := 4) (rest := numB x.ks.length ++ (putL x.ks ++ rest)) (by omega) (by decide)
      have e2 : kindC d l ⟨putT x ++ rest, 0⟩ = ⟨numB x.ks.length ++ (putL x.ks ++ rest), 0⟩ := by
        unfold kindC kindB
        rw [ep, e1, if_neg (fun q => by have h : x.k.toNat < 1 := q.2; omega), if_neg (by omega)]
      have e3 := int_put (n := x.ks.length) (top := 64) (rest := putL x.ks ++ rest) (by omega) (by decide)
      rw [item_dir (fun q => q (by rw [ep, e1]; show x.k.toNat = 4; omega)), e2, e3]
      simp only
      rw [key x.ks (fun y hy => hy) (l - 1) rest (by omega)]
      refine Prod.ext ?_ (Prod.ext ?_ rfl)
      · show Tr.mk [] 4 [] x.ks = Tr.mk [] x.k x.t x.ks
        rw [hk4, hkt hk4]
      · show l - 1 - (countL x.ks : Int) = l - x.count
        omega
    · have hks : x.ks = [] := by have := hkf hk4; simpa using this
      have ep : putT x ++ rest = numB x.k.toNat ++ (strB x.t ++ rest) := by rw [putT_eq, if_pos hk4]; simp
      have e1 := int_put (n := x.k.toNat) (top := 4) (rest := strB x.t ++ rest) (by omega) (by decide)
      have e2 : kindC d l ⟨putT x ++ rest, 0⟩ = ⟨strB x.t ++ rest, 0⟩ := by
        unfold kindC kindB
        rw [ep, e1, if_neg (fun q => by have h : x.k.toNat < 1 := q.2; omega), if_neg (by omega)]
      have e3 := str_put (s := x.t) (top := 8192) (rest := rest) ht (by decide)
      rw [item_file (by rw [ep, e1]; show x.k.toNat ≠ 4; omega), e2, e3, ep, e1]
      refine Prod.ext ?_ (Prod.ext ?_ rfl)
      · show Tr.mk [] ((x.k.toNat : Nat) : Int) x.t [] = Tr.mk [] x.k x.t x.ks
        rw [hkn, hks]
      · show l - 1 = l - x.count
        rw [hce, hks]; simp [countL]
/-- what is read as a tree is its archive -/
theorem item_of : ∀ (f d : Nat) (l : Int) (b : Bl), d + f = 10 → (itemF f d l b).2.2.err = 0 → 1 ≤ f → b.left = putT (itemF f d l b).1 ++ (itemF f d l b).2.2.left ∧ (itemF f d l b).2.2 = ⟨(itemF f d l b).2.2.left, 0⟩ ∧ b.err = 0
  | f + 1, d, l, b, hd, h, _ => by
    have key : ∀ (n : Nat) (l : Int) (b : Bl), d ≤ 8 → d + 1 + f = 10 → (loopF (itemF f (d + 1)) n l b).2.2.err = 0 → b.left = putL (loopF (itemF f (d + 1)) n l b).1 ++ (loopF (itemF f (d + 1)) n l b).2.2.left ∧ (loopF (itemF f (d + 1)) n l b).2.2 = ⟨(loopF (itemF f (d + 1)) n l b).2.2.left, 0⟩ ∧ b.err = 0 ∧ (loopF (itemF f (d + 1)) n l b).1.length = n := by
      intro n
      induction n with
      | zero => intro l b _ _ h; refine ⟨by simp [loopF, putL], ?_, h, rfl⟩; cases b; simp only [loopF] at h ⊢; rw [show _ = (0 : Int) from h]
      | succ n ihn =>
        intro l b h8 hdf h
        by_cases hb : b.err = 0
        · rw [loopF, if_pos hb] at h ⊢
          simp only at h ⊢
          obtain ⟨k1, k2, k3, k4⟩ := ihn _ _ h8 hdf h
          obtain ⟨j1, j2, j3⟩ := item_of f (d + 1) l (strR b 24).2 hdf k3 (by omega)
          obtain ⟨_, i2, i3⟩ := str_of j3
          refine ⟨?_, k2, hb, by simp [k4]⟩
          rw [i2, j1, k1, putL]
          have ep : ∀ (y : Tr) (m : List UInt8), putT (y.named m) = putT y := fun y m => by rw [putT_eq, putT_eq y]; rfl
          rw [ep]
          show _ = strB (strR b 24).1 ++ _ ++ _ ++ _
          simp
        · rw [loopF, if_neg hb] at h; exact absurd h hb
    by_cases hk : (intR b 4).1 ≠ 4
    · rw [item_file hk] at h ⊢
      simp only at h ⊢
      obtain ⟨i1, i2, i3⟩ := str_of h
      obtain ⟨hb, _, _, _, e1⟩ := kind_stick i1
      rw [e1] at i1 i2
      obtain ⟨_, j2, _⟩ := int_of i1
      refine ⟨?_, i3, hb⟩
      rw [j2, i2, putT_eq]
      show _ = (numB ((intR b 4).1 : Int).toNat ++ (if ((intR b 4).1 : Int) ≠ 4 then strB (strR (kindC d l b) 8192).1 else _)) ++ _
      rw [if_pos (by omega), e1, Int.toNat_natCast]
      simp
    · have hk4 : (intR b 4).1 = 4 := by omega
      rw [item_dir hk] at h ⊢
      simp only at h ⊢
      have hdf : d + 1 + f = 10 := by omega
      by_cases hc : (kindC d l b).err = 0
      · obtain ⟨hb, _, hd8, _, e1⟩ := kind_stick hc
        obtain ⟨k1, k2, k3, k4⟩ := key _ _ _ hd8 hdf h
        obtain ⟨_, i2, _⟩ := int_of k3
        rw [e1] at hc
        obtain ⟨_, j2, _⟩ := int_of hc
        refine ⟨?_, k2, hb⟩
        rw [j2, ← e1, i2, k1, putT_eq, if_neg (fun q => q rfl)]
        show _ = numB (4 : Int).toNat ++ (numB (loopF _ _ _ _).1.length ++ putL _) ++ _
        rw [k4, hk4]
        simp
        rfl
      · rw [int_bad hc] at h
        simp only [loopF] at h
        exact absurd h hc
/-- any bytes: the tree, the error -/
def parF (s : List UInt8) : Tr × Int :=
  if 32768 < s.length then (.mk [] 0 [] [], 5)
  else if s.take 4 ≠ mark then (.mk [] 0 [] [], 2)
  else if closeE (itemF 9 1 64 ⟨s.drop 4, 0⟩).2.2 ≠ 0 then (.mk [] 0 [] [], closeE (itemF 9 1 64 ⟨s.drop 4, 0⟩).2.2)
  else if chkE (itemF 9 1 64 ⟨s.drop 4, 0⟩).1 ≠ 0 then (.mk [] 0 [] [], chkE (itemF 9 1 64 ⟨s.drop 4, 0⟩).1)
  else ((itemF 9 1 64 ⟨s.drop 4, 0⟩).1, 0)
theorem close_0 {b : Bl} (h : closeE b = 0) : b.err = 0 ∧ b.left = [] := by
  unfold closeE at h
  by_cases q : b.err = 0 ∧ b.left ≠ []
  · rw [if_pos q] at h; cases h
  · rw [if_neg q] at h
    refine ⟨h, ?_⟩
    by_cases e : b.left = []
    · exact e
    · exact absurd ⟨h, e⟩ q
theorem chkE_le {x : Tr} (h : chkE x = 0) : x.count ≤ 64 := by
  have h1 := chkE_T h
  have h2 := (chk_all x 1 [] true true).2 h1 (Nat.le_refl _)
  unfold chkE at h
  by_cases q : (chkT x 1).2 = 0 ∧ 64 < (chkT x 1).1
  · rw [if_pos q] at h; cases h
  · have : ¬ 64 < (chkT x 1).1 := fun e => q ⟨h1, e⟩
    omega
theorem named_chk (x : Tr) (m : List UInt8) (d : Nat) : chkT (x.named m) d = chkT x d := by rw [chkT_eq, chkT_eq x]; rfl
theorem named_chkE (x : Tr) (m : List UInt8) : chkE (x.named m) = chkE x := by unfold chkE; rw [named_chk]
theorem par_put {x : Tr} (h : chkE x = 0) (hl : 4 + (putT x).length ≤ 32768) : parF (mark ++ putT x) = (x.named [], 0) := by
  have h64 := chkE_le h
  have e := item_put 9 1 x 64 [] rfl (chkE_T h) (Nat.le_refl _) (by omega) h64
  rw [List.append_nil] at e
  have ed : (mark ++ putT x).drop 4 = putT x := rfl
  unfold parF
  rw [if_neg (by rw [List.length_append]; show ¬ 32768 < 4 + _; omega), if_neg (fun q => q rfl), ed, e]
  simp only
  rw [if_neg (fun q => q rfl), named_chkE, if_neg (fun q => q h)]
theorem par_of {s : List UInt8} (h : (parF s).2 = 0) : chkE (parF s).1 = 0 ∧ s = mark ++ putT (parF s).1 ∧ s.length ≤ 32768 ∧ parF s = ((itemF 9 1 64 ⟨s.drop 4, 0⟩).1, 0) := by
  unfold parF at h ⊢
  by_cases h1 : 32768 < s.length
  · rw [if_pos h1] at h; cases h
  · by_cases h2 : s.take 4 ≠ mark
    · rw [if_neg h1, if_pos h2] at h; cases h
    · by_cases h3 : closeE (itemF 9 1 64 ⟨s.drop 4, 0⟩).2.2 ≠ 0
      · rw [if_neg h1, if_neg h2, if_pos h3] at h; exact absurd h h3
      · by_cases h4 : chkE (itemF 9 1 64 ⟨s.drop 4, 0⟩).1 ≠ 0
        · rw [if_neg h1, if_neg h2, if_neg h3, if_pos h4] at h; exact absurd h h4
        · rw [if_neg h1, if_neg h2, if_neg h3, if_neg h4]
          obtain ⟨c1, c2⟩ := close_0 (Decidable.not_not.1 h3)
          obtain ⟨i1, _, _⟩ := item_of 9 1 64 ⟨s.drop 4, 0⟩ rfl c1 (by decide)
          rw [c2, List.append_nil] at i1
          refine ⟨Decidable.not_not.1 h4, ?_, by omega, rfl⟩
          show s = mark ++ putT (itemF 9 1 64 ⟨s.drop 4, 0⟩).1
          rw [← i1, ← Decidable.not_not.1 h2, List.take_append_drop]
/-- a part of an archive is none, nor is more than one -/
theorem par_part {x : Tr} {s rest : List UInt8} (hx : chkE x = 0) (hs : mark ++ putT x = s ++ rest) (hr : rest ≠ []) (hy : (parF s).2 = 0) : False := by
  obtain ⟨k1, k2, _, _⟩ := par_of hy
  obtain ⟨y, hyy⟩ : ∃ y, y = (parF s).1 := ⟨_, rfl⟩
  rw [← hyy] at k1 k2
  rw [k2, List.append_assoc] at hs
  have e := List.append_cancel_left hs
  have e1 := item_put 9 1 x 64 [] rfl (chkE_T hx) (Nat.le_refl _) (by have := chkE_le hx; omega) (chkE_le hx)
  have e2 := item_put 9 1 y 64 rest rfl (chkE_T k1) (Nat.le_refl _) (by have := chkE_le k1; omega) (chkE_le k1)
  rw [List.append_nil, e, e2] at e1
  have := congrArg (fun r => r.2.2.left) e1
  exact hr this
theorem put_inj {x y : Tr} (hx : chkE x = 0) (hy : chkE y = 0) : putT x = putT y ↔ compT x y = 0 := by
  constructor
  · intro e
    have e1 := item_put 9 1 x 64 [] rfl (chkE_T hx) (Nat.le_refl _) (by have := chkE_le hx; omega) (chkE_le hx)
    have e2 := item_put 9 1 y 64 [] rfl (chkE_T hy) (Nat.le_refl _) (by have := chkE_le hy; omega) (chkE_le hy)
    rw [e, e2] at e1
    have e3 : y.named [] = x.named [] := congrArg (fun r => r.1) e1
    refine (compT_zero x y).2 ⟨?_, ?_, ?_⟩
    · exact (congrArg Tr.k e3).symm
    · exact (congrArg Tr.t e3).symm
    · exact (congrArg Tr.ks e3).symm
  · intro e
    obtain ⟨h1, h2, h3⟩ := (compT_zero x y).1 e
    rw [putT_eq, putT_eq y, h1, h2, h3]
/-- how long an archive of a small tree is -/
theorem putT_small (x : Tr) : ∀ d, (chkT x d).2 = 0 → x.count ≤ 30 → TAll Sm2 x → x.t.length ≤ 300 → (putT x).length + 25 ≤ 400 * x.count := by
  refine Tr.ind (p := fun x => ∀ d, (chkT x d).2 = 0 → x.count ≤ 30 → TAll Sm2 x → x.t.length ≤ 300 → (putT x).length + 25 ≤ 400 * x.count) (fun x ih d h hc hs ht => ?_) x
  obtain ⟨h0, h1⟩ := chkT_ok h
  obtain ⟨hk, _⟩ := own0_ok h0
  have hce := x.count_eq
  have key : ∀ ks : List Tr, (∀ y ∈ ks, y ∈ x.ks) → (putL ks).length ≤ 400 * countL ks := by
    intro ks
    induction ks with
    | nil => intro _; simp [putL]
    | cons y ys ihy =>
      intro hm
      have k1 := ihy (fun z hz => hm z (by simp [hz]))
      have hy : y ∈ x.ks := hm y (by simp)
      have hcy : y.count ≤ countL x.ks := count_mem hy
      have k2 := ih y hy (d + 1) (h1 y hy).2 (by omega) (hs.kid hy).2 (hs.kid hy).1.2
      have k3 := (hs.kid hy).1.1
      have k4 := strB_len (s := y.n) (by omega)
      simp only [putL, List.length_append, countL]
      omega
  rw [putT_eq, List.length_append]
  have n1 := numB_len (n := x.k.toNat) (by omega)
  split
  · have := strB_len (s := x.t) (by omega)
    omega
  · have := key x.ks (fun y hy => hy)
    have hl := count_le_len x.ks
    have := numB_len (n := x.ks.length) (by omega)
    rw [List.length_append]
    omega
theorem num_0 : numB 0 = [0] := by rw [numB, beB_0]; rfl
theorem num_1' : numB 1 = [1, 1] := by rw [numB, beB_pos (by decide), show 1 / 256 = 0 from rfl, beB_0]; rfl
theorem num_2' : numB 2 = [1, 2] := by rw [numB, beB_pos (by decide), show 2 / 256 = 0 from rfl, beB_0]; rfl
def xab : Tr := .mk [] 1 [97, 98] []
theorem put_ab : putT xab = [1, 1, 1, 2, 97, 98] := by
  rw [putT_eq]
  show numB 1 ++ (if (1 : Int) ≠ 4 then strB [97, 98] else _) = _
  rw [if_pos (by decide), strB]
  show numB 1 ++ (numB 2 ++ [97, 98]) = _
  rw [num_1', num_2']; rfl
theorem chk_ab : chkE xab = 0 := by decide +kernel
theorem wr_ab : wrS xab = [99, 114, 118, 1, 1, 1, 1, 2, 97, 98] ∧ wrE xab = 0 := by
  obtain ⟨h1, h2⟩ := wr_ok chk_ab (by rw [put_ab]; decide)
  exact ⟨by rw [h1, put_ab]; rfl, h2⟩
theorem par_ab : parF [99, 114, 118, 1, 1, 1, 1, 2, 97, 98] = (xab, 0) := by
  have := par_put chk_ab (by rw [put_ab]; decide)
  rw [put_ab] at this
  exact this
theorem par_0 : (parF [99, 114, 118, 1, 0]).2 = 2 := by decide +kernel
def cpF (s : List UInt8) : List UInt8 := if s.take 4 = mark then s.drop 4 else s
theorem cpF_yes {s : List UInt8} (h : s.take 4 = mark) : cpF s = s.drop 4 := if_pos h
theorem errL_all : ∀ {l : List Nd}, errL l = 0 → ∀ z ∈ l, ndErr z = 0
  | [], _, z, hz => by cases hz
  | w :: ws, h, z, hz => by
    rw [errL] at h
    split at h
    · rename_i h1; exact absurd h h1
    · rename_i h1
      rcases List.mem_cons.1 hz with rfl | hz
      · exact Decidable.not_not.1 h1
      · exact errL_all h z hz
theorem nd_ok {z : Nd} (h : ndErr z = 0) : own0 z.k z.t z.filled z.dep = 0 := by
  unfold ndErr at h
  split at h
  · cases h
  · exact h
theorem told_props {x : Tr} (hs : TAll Sm x) (ht : x.t.length ≤ 20000) (h : chkE x = 0) : ∀ z ∈ toldT x [] 1 true true, (0 ≤ z.k ∧ z.k ≤ 4) ∧ z.n.length ≤ 20000 ∧ z.t.length ≤ 20000 ∧ z.dep ≤ 1000000 := fun z hz => by
  rw [chkE_told] at h
  have he : errL (toldT x [] 1 true true) = 0 := by
    unfold refChk at h
    split at h
    · rename_i h1; exact absurd h h1
    · rename_i h1; exact Decidable.not_not.1 h1
  obtain ⟨hk, _, _, h8, hd, _⟩ := own0_ok (nd_ok (errL_all he z hz))
  have := told_sm x hs ht z hz
  exact ⟨by omega, by have := this.1; omega, by omega, by omega⟩
theorem par_sm {s : List UInt8} (h : (parF s).2 = 0) : (parF s).1.count ≤ 64 ∧ TAll Sm (parF s).1 ∧ (parF s).1.t.length ≤ 20000 := by
  obtain ⟨k1, _, _, k4⟩ := par_of h
  refine ⟨chkE_le k1, ?_⟩
  rw [k4]
  exact (item_ok 9 1 64 ⟨s.drop 4, 0⟩ (by decide) rfl).sm
theorem one_ok {s : List UInt8} (hs : s.length ≤ 600) (h : (parF s).2 = 0) : wrS (parF s).1 = s ∧ wrE (parF s).1 = 0 := by
  obtain ⟨k1, k2, k3, _⟩ := par_of h
  have hl : s.length = 4 + (putT (parF s).1).length := by rw [k2, List.length_append, ← k2]; rfl
  obtain ⟨w1, w2⟩ := wr_ok k1 (by omega)
  exact ⟨w1.trans k2.symm, w2⟩
theorem small_wr {x : Tr} (h : chkE x = 0) (hc : x.count ≤ 30) (hs : TAll Sm2 x) (ht : x.t.length ≤ 300) : wrS x = mark ++ putT x ∧ wrE x = 0 ∧ (putT x).length ≤ 12000 := by
  have := putT_small x 1 (chkE_T h) hc hs ht
  obtain ⟨w1, w2⟩ := wr_ok h (by omega)
  exact ⟨w1, w2, by omega⟩
theorem named_same (x : Tr) (m : List UInt8) : compT x (x.named m) = 0 := (compT_zero x (x.named m)).2 ⟨rfl, rfl, rfl⟩
theorem back_1 {x : Tr} (h : chkE x = 0) {n : Nat} (hn : n < (mark ++ putT x).length) : (parF ((mark ++ putT x).take n)).2 ≠ 0 := fun q =>
  par_part h (List.take_append_drop n (mark ++ putT x)).symm (fun e => by have := congrArg List.length e; rw [List.length_drop] at this; simp only [List.length_nil] at this; omega) q
theorem back_2 {x : Tr} (h : chkE x = 0) (hl : (putT x).length ≤ 12000) : (parF (mark ++ putT x ++ [0])).2 ≠ 0 := fun q => by
  obtain ⟨k1, k2, _, _⟩ := par_of q
  exact par_part k1 k2.symm (by simp) (by rw [par_put h (by omega)])
theorem min_nn {n : Int} {k : Nat} (hk : 0 < k) : ∃ m : Nat, min (max n 0) ((k : Int) - 1) = (m : Int) ∧ m < k := ⟨(min (max n 0) ((k : Int) - 1)).toNat, by omega, by omega⟩


end Cv
set_option maxRecDepth 10000
namespace Cv
open Go Go.Proofs
/-! ## the document's reading, as a list -/
structure Op where
  left : Int
  last : List UInt8
  any : Bool
@[reducible] def opR (o : Op) : List Value := [.int .i64 o.left, S o.last, .bool o.any]
def popL (L : List Op) : List Op := L.dropWhile (fun o => decide (o.left = 0))
def nmF : List Op → Bl → List UInt8 × Bl
  | [], b => ([], b)
  | _ :: _, b => strR b 24
def stF : List Op → List UInt8 → List Op
  | [], _ => []
  | o :: os, nm => ⟨o.left - 1, nm, true⟩ :: os
def fiF : List Op → Bool
  | [] => true
  | o :: _ => !o.any
def riF : List Op → List UInt8 → Bool
  | [], _ => true
  | o :: _, nm => o.any && bless o.last nm
def kB (ln dep : Nat) (b : Bl) : Bl := if b.err = 0 ∧ (64 ≤ ln ∨ 8 < dep) then ⟨b.left, 5⟩ else b
def kC (kk : Nat) (b : Bl) : Bl := if b.err = 0 ∧ kk = 0 then ⟨b.left, 2⟩ else b
def stepC (ln : Nat) (L : List Op) (b : Bl) : Bl := kC (intR (nmF L b).2 4).1 (kB ln (L.length + 1) (intR (nmF L b).2 4).2)
def stepF (ln : Nat) (L : List Op) (b : Bl) : Nd × List Op × Bl :=
  if (intR (nmF L b).2 4).1 = 4 then (⟨L.length + 1, (nmF L b).1, 4, [], decide (0 < (intR (stepC ln L b) 64).1), fiF L, riF L (nmF L b).1⟩, ⟨(intR (stepC ln L b) 64).1, [], false⟩ :: stF L (nmF L b).1, (intR (stepC ln L b) 64).2)
  else (⟨L.length + 1, (nmF L b).1, (intR (nmF L b).2 4).1, (strR (stepC ln L b) 8192).1, false, fiF L, riF L (nmF L b).1⟩, stF L (nmF L b).1, (strR (stepC ln L b) 8192).2)
def refL : Nat → List Nd → List Op → Bl → List Nd × Bl
  | 0, l, _, b => (l, b)
  | n + 1, l, L, b => if b.err ≠ 0 then (l, b) else if l ≠ [] ∧ popL L = [] then (l, b) else refL n (l ++ [(stepF l.length (popL L) b).1]) (stepF l.length (popL L) b).2.1 (stepF l.length (popL L) b).2.2
/-- what is yet to be read -/
def runS : List Op → Int → Bl → List Nd × Int × Bl
  | [], l, b => ([], l, b)
  | o :: os, l, b =>
    (toldL (loopF (itemF (8 - os.length) (os.length + 2)) o.left.toNat l b).1 (os.length + 2) (if o.any then some o.last else none) ++ (runS os (loopF (itemF (8 - os.length) (os.length + 2)) o.left.toNat l b).2.1 (loopF (itemF (8 - os.length) (os.length + 2)) o.left.toNat l b).2.2).1,
     (runS os (loopF (itemF (8 - os.length) (os.length + 2)) o.left.toNat l b).2.1 (loopF (itemF (8 - os.length) (os.length + 2)) o.left.toNat l b).2.2).2)
theorem loop_stuck {rec : Int → Bl → Tr × Int × Bl} {n : Nat} {l : Int} {b : Bl} (h : b.err ≠ 0) : loopF rec n l b = ([], l, b) := by
  cases n with
  | zero => rfl
  | succ n => rw [loopF, if_neg h]
theorem run_stuck : ∀ (L : List Op) (l : Int) (b : Bl), b.err ≠ 0 → runS L l b = ([], l, b)
  | [], l, b, _ => rfl
  | o :: os, l, b, h => by rw [runS, loop_stuck h]; simp only [toldL_nil, List.nil_append]; rw [run_stuck os l b h]
theorem run_pop : ∀ (L : List Op) (l : Int) (b : Bl), runS (popL L) l b = runS L l b
  | [], l, b => rfl
  | o :: os, l, b => by
    unfold popL
    rw [List.dropWhile_cons]
    by_cases h : o.left = 0
    · rw [if_pos (by simpa using h), runS, h]
      simp only [Int.toNat_zero, loopF, toldL_nil, List.nil_append]
      exact run_pop os l b
    · rw [if_neg (by simpa using h)]
theorem pop_head : ∀ {L : List Op} {o : Op} {os : List Op}, popL L = o :: os → o.left ≠ 0
  | [], o, os, h => by simp [popL] at h
  | p :: ps, o, os, h => by
    unfold popL at h
    rw [List.dropWhile_cons] at h
    by_cases e : p.left = 0
    · rw [if_pos (by simpa using e)] at h; exact pop_head (L := ps) h
    · rw [if_neg (by simpa using e)] at h; cases h; exact e
theorem pop_suffix (L : List Op) : (popL L).length ≤ L.length := by unfold popL; exact (List.dropWhile_suffix _).length_le
theorem pop_all {p : Op → Prop} {L : List Op} (h : ∀ o ∈ L, p o) : ∀ o ∈ popL L, p o := fun o ho => h o ((List.dropWhile_suffix _).mem ho)
/-- after a step that fails, both fail alike -/
def EqB (x y : Bl) : Prop := x.err = y.err ∧ (y.err = 0 → x = y)
theorem kB_rel {ln dep : Nat} {l : Int} {b : Bl} (hl : l = 64 - ln) (hln : ln ≤ 64) : EqB (kB ln dep b) (if l - 1 < 0 ∨ 8 < dep then failB b 5 else b) := by
  unfold kB failB
  by_cases h1 : b.err = 0
  · by_cases h2 : 64 ≤ ln ∨ 8 < dep
    · rw [if_pos ⟨h1, h2⟩, if_pos (by omega), if_pos h1]; exact ⟨rfl, fun q => absurd q (by decide)⟩
    · rw [if_neg (fun q => h2 q.2), if_neg (by omega)]; exact ⟨rfl, fun _ => rfl⟩
  · rw [if_neg (fun q => h1 q.1)]
    split
    · exact ⟨rfl, fun _ => rfl⟩
    · exact ⟨rfl, fun _ => rfl⟩
theorem kC_rel {x y : Bl} {kk : Nat} (h : EqB x y) : EqB (kC kk x) (if y.err = 0 ∧ kk < 1 then failB y 2 else y) := by
  unfold kC failB
  obtain ⟨h1, h2⟩ := h
  by_cases hy : y.err = 0
  · have := h2 hy
    subst this
    by_cases hk : kk = 0
    · rw [if_pos ⟨hy, hk⟩, if_pos ⟨hy, by omega⟩, if_pos hy]; exact ⟨rfl, fun q => absurd q (by decide)⟩
    · rw [if_neg (fun q => hk q.2), if_neg (fun q => hk (by omega))]; exact ⟨rfl, fun _ => rfl⟩
  · rw [if_neg (fun q => hy (by rw [← h1]; exact q.1)), if_neg (fun q => hy q.1)]
    exact ⟨h1, h2⟩
theorem kind_step {ln : Nat} {L : List Op} {b1 : Bl} {l : Int} (hl : l = 64 - ln) (hln : ln ≤ 64) : EqB (kC (intR b1 4).1 (kB ln (L.length + 1) (intR b1 4).2)) (kindC (L.length + 1) l b1) := by
  have := kC_rel (kk := (intR b1 4).1) (kB_rel (dep := L.length + 1) (b := (intR b1 4).2) hl hln)
  unfold kindC kindB
  exact this
theorem item_bad {f d : Nat} {l : Int} {b : Bl} (h : (kindC d l b).err ≠ 0) : (itemF (f + 1) d l b).2 = (l - 1, kindC d l b) := by
  by_cases hk : (intR b 4).1 ≠ 4
  · rw [item_file hk, str_bad h]
  · rw [item_dir hk, int_bad h]; rfl
theorem loop_full {rec : Int → Bl → Tr × Int × Bl} : ∀ (n : Nat) (l : Int) (b : Bl), (loopF rec n l b).2.2.err = 0 → (loopF rec n l b).1.length = n
  | 0, l, b, _ => rfl
  | n + 1, l, b, h => by
    by_cases hb : b.err = 0
    · rw [loopF, if_pos hb] at h ⊢
      simp only at h ⊢
      rw [List.length_cons, loop_full n _ _ h]
    · rw [loopF, if_neg hb] at h; exact absurd h hb
def Clm (n : Nat) (l : List Nd) (L : List Op) (b : Bl) : Prop := ((runS L (64 - l.length) b).2.2.err = 0 → refL n l L b = (l ++ (runS L (64 - l.length) b).1, (runS L (64 - l.length) b).2.2)) ∧ ((runS L (64 - l.length) b).2.2.err ≠ 0 → (refL n l L b).2.err = (runS L (64 - l.length) b).2.2.err)
theorem ref_stuck {n : Nat} {l : List Nd} {L : List Op} {b : Bl} (h : b.err ≠ 0) (hn : 0 < n) : refL n l L b = (l, b) := by
  obtain ⟨k, rfl⟩ : ∃ k, n = k + 1 := ⟨n - 1, by omega⟩
  rw [refL, if_pos h]
theorem told_named (y : Tr) (m nm : List UInt8) (d : Nat) (f r : Bool) : toldT (y.named m) nm d f r = toldT y nm d f r := by rw [toldT_eq, toldT_eq y]; rfl
theorem core_step {n : Nat} {l : List Nd} {nm : List UInt8} {b1 : Bl} {ST : List Op} {fi ri : Bool} (hn : n + (l.length + 1) = 70) (hl : l.length ≤ 64) (hST : ∀ o ∈ ST, 0 ≤ o.left) (hd : ST.length ≤ 8) {f : Nat} (hf : f = 8 - ST.length)
    (ih : ∀ (l' : List Nd) (L' : List Op) (b' : Bl), l'.length = l.length + 1 → l' ≠ [] → b'.err = 0 → l'.length ≤ 64 → (∀ o ∈ L', 0 ≤ o.left) → L'.length ≤ 8 → Clm n l' L' b') {C : Bl} (hC : EqB C (kindC (ST.length + 1) (64 - l.length) b1))
    {x : Nd} {L2 : List Op} {b2 : Bl} (hs : (x, L2, b2) = if (intR b1 4).1 = 4 then (⟨ST.length + 1, nm, 4, [], decide (0 < (intR C 64).1), fi, ri⟩, ⟨(intR C 64).1, [], false⟩ :: ST, (intR C 64).2) else (⟨ST.length + 1, nm, (intR b1 4).1, (strR C 8192).1, false, fi, ri⟩, ST, (strR C 8192).2)) :
    ((runS ST (itemF (f + 1) (ST.length + 1) (64 - l.length) b1).2.1 (itemF (f + 1) (ST.length + 1) (64 - l.length) b1).2.2).2.2.err = 0 → refL n (l ++ [x]) L2 b2 = (l ++ (toldT (itemF (f + 1) (ST.length + 1) (64 - l.length) b1).1 nm (ST.length + 1) fi ri ++ (runS ST (itemF (f + 1) (ST.length + 1) (64 - l.length) b1).2.1 (itemF (f + 1) (ST.length + 1) (64 - l.length) b1).2.2).1), (runS ST (itemF (f + 1) (ST.length + 1) (64 - l.length) b1).2.1 (itemF (f + 1) (ST.length + 1) (64 - l.length) b1).2.2).2.2)) ∧
    ((runS ST (itemF (f + 1) (ST.length + 1) (64 - l.length) b1).2.1 (itemF (f + 1) (ST.length + 1) (64 - l.length) b1).2.2).2.2.err ≠ 0 → (refL n (l ++ [x]) L2 b2).2.err = (runS ST (itemF (f + 1) (ST.length + 1) (64 - l.length) b1).2.1 (itemF (f + 1) (ST.length + 1) (64 - l.length) b1).2.2).2.2.err) := by
  by_cases hc : (kindC (ST.length + 1) (64 - l.length) b1).err = 0
  · have e := hC.2 hc
    subst e
    obtain ⟨_, hl1, hd8, _, _⟩ := kind_stick hc
    have hll : (l ++ [x]).length = l.length + 1 := by simp
    have hcast : (64 - (((l ++ [x]).length : Nat) : Int)) = 64 - (l.length : Int) - 1 := by rw [hll]; omega
    by_cases hk : (intR b1 4).1 = 4
    · rw [if_pos hk] at hs
      obtain ⟨hsx, hsL, hsb⟩ : x = _ ∧ L2 = _ ∧ b2 = _ := ⟨congrArg (·.1) hs, congrArg (·.2.1) hs, congrArg (·.2.2) hs⟩
      subst hsx; subst hsL; subst hsb
      simp only at hcast hll
      rw [item_dir (fun q => q hk)]
      simp only
      obtain ⟨C, hCe⟩ : ∃ C, C = kindC (ST.length + 1) (64 - l.length) b1 := ⟨_, rfl⟩
      rw [← hCe] at hcast hll ⊢
      by_cases he : (intR C 64).2.err = 0
      · have c := ih (l ++ [⟨ST.length + 1, nm, 4, [], decide (0 < (intR C 64).1), fi, ri⟩]) (⟨(intR C 64).1, [], false⟩ :: ST) (intR C 64).2 hll (by simp) he (by omega) (fun o ho => by
          rcases List.mem_cons.1 ho with rfl | ho
          · simp
          · exact hST o ho) (by simp only [List.length_cons]; omega)
        unfold Clm at c
        rw [hcast, runS] at c
        simp only [Int.toNat_natCast] at c
        rw [show ST.length + 2 = ST.length + 1 + 1 from rfl, ← hf] at c
        obtain ⟨Y, hY⟩ : ∃ Y, Y = loopF (itemF f (ST.length + 1 + 1)) (intR C 64).1 (64 - (l.length : Int) - 1) (intR C 64).2 := ⟨_, rfl⟩
        rw [← hY] at c ⊢
        refine ⟨fun h => ?_, fun h => c.2 h⟩
        have hb : Y.2.2.err = 0 := by
          by_cases q : Y.2.2.err = 0
          · exact q
          · rw [run_stuck _ _ _ q] at h; exact absurd h q
        have hfull : Y.1.length = (intR C 64).1 := by rw [hY]; exact loop_full _ _ _ (by rw [← hY]; exact hb)
        rw [c.1 h, toldT_eq]
        simp only [Tr.k, Tr.t, Tr.ks, hfull]
        simp
      · rw [loop_stuck he, run_stuck _ _ _ he]
        refine ⟨fun h => absurd h he, fun _ => ?_⟩
        rw [ref_stuck he (by omega)]
    · rw [if_neg hk] at hs
      obtain ⟨hsx, hsL, hsb⟩ : x = _ ∧ L2 = _ ∧ b2 = _ := ⟨congrArg (·.1) hs, congrArg (·.2.1) hs, congrArg (·.2.2) hs⟩
      have hsL2 := hsL.symm
      subst hsx; subst hsL2; subst hsb
      simp only at hcast hll
      rw [item_file hk]
      simp only
      obtain ⟨C, hCe⟩ : ∃ C, C = kindC (ST.length + 1) (64 - l.length) b1 := ⟨_, rfl⟩
      rw [← hCe] at hcast hll ⊢
      by_cases he : (strR C 8192).2.err = 0
      · have c := ih (l ++ [⟨ST.length + 1, nm, (intR b1 4).1, (strR C 8192).1, false, fi, ri⟩]) ST (strR C 8192).2 hll (by simp) he (by omega) hST hd
        unfold Clm at c
        rw [hcast] at c
        refine ⟨fun h => ?_, fun h => c.2 h⟩
        rw [c.1 h, toldT_eq]
        simp only [Tr.k, Tr.t, Tr.ks, toldL_nil]
        simp
      · rw [run_stuck _ _ _ he]
        refine ⟨fun h => absurd h he, fun _ => ?_⟩
        rw [ref_stuck he (by omega)]
  · have hce : C.err ≠ 0 := by rw [hC.1]; exact hc
    have e2 := item_bad (f := f) hc
    have hb2 : b2 = C := by
      by_cases hk : (intR b1 4).1 = 4
      · rw [if_pos hk] at hs; rw [show b2 = (intR C 64).2 from congrArg (·.2.2) hs, int_bad hce]
      · rw [if_neg hk] at hs; rw [show b2 = (strR C 8192).2 from congrArg (·.2.2) hs, str_bad hce]
    subst hb2
    rw [e2]
    simp only
    rw [run_stuck _ _ _ hc]
    refine ⟨fun h => absurd h hc, fun _ => ?_⟩
    rw [ref_stuck hce (by omega)]
    exact hC.1
theorem ref_run : ∀ (n : Nat) (l : List Nd) (L : List Op) (b : Bl), n + l.length = 70 → l ≠ [] → b.err = 0 → l.length ≤ 64 → (∀ o ∈ L, 0 ≤ o.left) → L.length ≤ 8 → Clm n l L b
  | 0, l, L, b, h, _, _, h64, _, _ => by omega
  | n + 1, l, L, b, h, hne, hb, h64, hL, h8 => by
    unfold Clm
    rw [refL, if_neg (fun q => q hb), ← run_pop]
    have hp8 := pop_suffix L
    cases hp : popL L with
    | nil => rw [if_pos ⟨hne, rfl⟩, runS]; simp [hb]
    | cons o os =>
      rw [if_neg (fun q => by cases q.2)]
      rw [hp] at hp8
      simp only [List.length_cons] at hp8
      have ho0 := pop_head hp
      have hpo := pop_all hL
      rw [hp] at hpo
      have ho1 : 0 ≤ o.left := hpo o (by simp)
      obtain ⟨m, hm⟩ : ∃ m, o.left.toNat = m + 1 := ⟨o.left.toNat - 1, by omega⟩
      have hm2 : (o.left - 1).toNat = m := by omega
      have hstep := core_step (n := n) (l := l) (nm := (strR b 24).1) (b1 := (strR b 24).2) (ST := ⟨o.left - 1, (strR b 24).1, true⟩ :: os) (fi := !o.any) (ri := o.any && bless o.last (strR b 24).1) (f := 8 - (os.length + 1)) (by omega) h64 (fun q hq => by
        rcases List.mem_cons.1 hq with rfl | hq
        · show 0 ≤ o.left - 1; omega
        · exact hpo q (by simp [hq])) (by simp only [List.length_cons]; omega) (by simp only [List.length_cons])
        (fun l' L' b' k1 k2 k3 k4 k5 k6 => ref_run n l' L' b' (by omega) k2 k3 k4 k5 k6) (C := stepC l.length (o :: os) b) (by
          have := kind_step (ln := l.length) (L := o :: os) (b1 := (strR b 24).2) (l := 64 - l.length) rfl h64
          exact this) (x := (stepF l.length (o :: os) b).1) (L2 := (stepF l.length (o :: os) b).2.1) (b2 := (stepF l.length (o :: os) b).2.2) (by unfold stepF; rfl)
      simp only [List.length_cons] at hstep
      rw [show 8 - (os.length + 1) + 1 = 8 - os.length from by omega] at hstep
      rw [runS, hm, loopF, if_pos hb]
      simp only
      rw [show os.length + 2 = os.length + 1 + 1 from rfl]
      obtain ⟨Y, hY⟩ : ∃ Y, Y = itemF (8 - os.length) (os.length + 1 + 1) (64 - (l.length : Int)) (strR b 24).2 := ⟨_, rfl⟩
      rw [← hY] at hstep ⊢
      rw [runS] at hstep
      simp only at hstep
      rw [hm2, show os.length + 2 = os.length + 1 + 1 from rfl] at hstep
      rw [toldL_cons, told_named]
      have e1 : (if o.any = true then some o.last else none).isNone = !o.any := by cases o.any <;> rfl
      have e2 : risO (if o.any = true then some o.last else none) (Y.1.named (strR b 24).1).n = (o.any && bless o.last (strR b 24).1) := by cases o.any <;> rfl
      rw [e1, e2]
      show ((_ → _ = (l ++ (toldT Y.1 (strR b 24).1 _ _ _ ++ _ ++ _), _)) ∧ _)
      refine ⟨fun q => ?_, fun q => hstep.2 q⟩
      rw [hstep.1 q]
      simp [Tr.named, Tr.n]
theorem ref_root {s : List UInt8} : ((itemF 9 1 64 ⟨s, 0⟩).2.2.err = 0 → refL 70 [] [] ⟨s, 0⟩ = (toldT (itemF 9 1 64 ⟨s, 0⟩).1 [] 1 true true, (itemF 9 1 64 ⟨s, 0⟩).2.2)) ∧ ((itemF 9 1 64 ⟨s, 0⟩).2.2.err ≠ 0 → (refL 70 [] [] ⟨s, 0⟩).2.err = (itemF 9 1 64 ⟨s, 0⟩).2.2.err) := by
  rw [refL, if_neg (fun q => q rfl), if_neg (fun q => q.1 rfl)]
  have hstep := core_step (n := 69) (l := []) (nm := []) (b1 := ⟨s, 0⟩) (ST := []) (fi := true) (ri := true) (f := 8) (by decide) (by decide) (fun q hq => by cases hq) (by decide) rfl
    (fun l' L' b' k1 k2 k3 k4 k5 k6 => ref_run 69 l' L' b' (by rw [k1]; rfl) k2 k3 k4 k5 k6) (C := stepC 0 [] ⟨s, 0⟩) (kind_step (ln := 0) (L := []) (b1 := ⟨s, 0⟩) (l := 64) rfl (by decide)) (x := (stepF 0 [] ⟨s, 0⟩).1) (L2 := (stepF 0 [] ⟨s, 0⟩).2.1) (b2 := (stepF 0 [] ⟨s, 0⟩).2.2) (by unfold stepF; rfl)
  simp only [runS, List.length_nil, List.nil_append, List.append_nil] at hstep
  exact hstep
def refP (s : List UInt8) : List Nd × Int :=
  if 32768 < s.length then ([], 5)
  else if s.take 4 ≠ mark then ([], 2)
  else if closeE (refL 70 [] [] ⟨s.drop 4, 0⟩).2 ≠ 0 then ([], closeE (refL 70 [] [] ⟨s.drop 4, 0⟩).2)
  else if refChk (refL 70 [] [] ⟨s.drop 4, 0⟩).1 ≠ 0 then ([], refChk (refL 70 [] [] ⟨s.drop 4, 0⟩).1)
  else ((refL 70 [] [] ⟨s.drop 4, 0⟩).1, 0)
theorem close_err {b : Bl} (h : b.err ≠ 0) : closeE b = b.err := by unfold closeE; rw [if_neg (fun q => h q.1)]
theorem refP_eq (s : List UInt8) : (refP s).2 = (parF s).2 ∧ ((parF s).2 = 0 → (refP s).1 = toldT (parF s).1 [] 1 true true) := by
  unfold refP parF
  by_cases h1 : 32768 < s.length
  · rw [if_pos h1, if_pos h1]; exact ⟨rfl, fun q => absurd q (by decide)⟩
  · by_cases h2 : s.take 4 ≠ mark
    · rw [if_neg h1, if_neg h1, if_pos h2, if_pos h2]; exact ⟨rfl, fun q => absurd q (by decide)⟩
    · rw [if_neg h1, if_neg h1, if_neg h2, if_neg h2]
      obtain ⟨r1, r2⟩ := ref_root (s := s.drop 4)
      by_cases h3 : (itemF 9 1 64 ⟨s.drop 4, 0⟩).2.2.err = 0
      · rw [r1 h3]
        simp only
        by_cases h4 : closeE (itemF 9 1 64 ⟨s.drop 4, 0⟩).2.2 ≠ 0
        · rw [if_pos h4, if_pos h4]; exact ⟨rfl, fun q => absurd q h4⟩
        · rw [if_neg h4, if_neg h4, ← chkE_told]
          by_cases h5 : chkE (itemF 9 1 64 ⟨s.drop 4, 0⟩).1 ≠ 0
          · rw [if_pos h5, if_pos h5]; exact ⟨rfl, fun q => absurd q h5⟩
          · rw [if_neg h5, if_neg h5]; exact ⟨rfl, fun _ => rfl⟩
      · have e := r2 h3
        have h4 : (refL 70 [] [] ⟨s.drop 4, 0⟩).2.err ≠ 0 := by rw [e]; exact h3
        rw [close_err h4, close_err h3, if_pos h4, if_pos h3]
        exact ⟨e, fun q => absurd q h3⟩
/-! ### the walk's invariant -/
theorem strR_64 (b : Bl) (top : Nat) : (strR b top).1.length ≤ top := str_top
structure PI (b0 : Bl) (tn : Nat) (l : List Nd) (L : List Op) (b : Bl) : Prop where
  eq : refL 70 [] [] b0 = refL (70 - tn) l L b
  ok : b.err = 0 → L.length ≤ 8 ∧ tn ≤ 64
  sm : ∀ z ∈ l, NdSm z
  bd : ∀ o ∈ L, 0 ≤ o.left ∧ o.left ≤ 64
theorem PI.zero (b0 : Bl) : PI b0 0 [] [] b0 := ⟨rfl, fun _ => ⟨by simp, by decide⟩, fun z h => (by cases h), fun o h => (by cases h)⟩
theorem step_err {ln : Nat} {L : List Op} {b : Bl} (h : (stepC ln L b).err = 0) : ln < 64 ∧ L.length + 1 ≤ 8 := by
  unfold stepC kC at h
  split at h
  · cases h
  · unfold kB at h
    by_cases q : (intR (nmF L b).2 4).2.err = 0 ∧ (64 ≤ ln ∨ 8 < L.length + 1)
    · rw [if_pos q] at h; cases h
    · rw [if_neg q] at h
      by_cases e : 64 ≤ ln ∨ 8 < L.length + 1
      · exact absurd ⟨h, e⟩ q
      · omega
theorem PI.step {b0 b b5 : Bl} {tn : Nat} {l : List Nd} {L L3 : List Op} {x : Nd} (h : PI b0 tn l L b) (ht : tn < 70) (hb : b.err = 0) (hl : l.length = tn) (hn : ¬ (0 < tn ∧ popL L = [])) (hs : (x, L3, b5) = stepF tn (popL L) b) : PI b0 (tn + 1) (l ++ [x]) L3 b5 := by
  have hx : x = (stepF tn (popL L) b).1 := congrArg (·.1) hs
  have hL : L3 = (stepF tn (popL L) b).2.1 := congrArg (·.2.1) hs
  have h5 : b5 = (stepF tn (popL L) b).2.2 := congrArg (·.2.2) hs
  have hpb := pop_all h.bd
  have hst : ∀ nm, (stF (popL L) nm).length = (popL L).length ∧ ∀ o ∈ stF (popL L) nm, 0 ≤ o.left ∧ o.left ≤ 64 := fun nm => by
    cases e : popL L with
    | nil => exact ⟨rfl, fun o ho => by cases ho⟩
    | cons o os =>
      have h0 := pop_head e
      rw [e] at hpb
      have := hpb o (by simp)
      refine ⟨rfl, fun q hq => ?_⟩
      rcases List.mem_cons.1 hq with rfl | hq
      · exact ⟨by show 0 ≤ o.left - 1; omega, by show o.left - 1 ≤ 64; omega⟩
      · exact hpb q (by simp [hq])
  have hnm : (nmF (popL L) b).1.length ≤ 20000 := by
    cases popL L with
    | nil => simp [nmF]
    | cons o os => have := str_top (b := b) (top := 24); simp only [nmF]; omega
  have ht8 := str_top (b := stepC tn (popL L) b) (top := 8192)
  have hi := int_le (stepC tn (popL L) b) 64
  refine ⟨?_, fun q => ?_, fun z hz => ?_, fun o ho => ?_⟩
  · rw [h.eq, show 70 - tn = (70 - (tn + 1)) + 1 from by omega, refL, if_neg (fun q => q hb), hl, if_neg (fun q => hn ⟨by
      rcases Nat.eq_zero_or_pos tn with e | e
      · exact absurd (List.length_eq_zero_iff.1 (hl.trans e)) q.1
      · exact e, q.2⟩), ← hx, ← hL, ← h5]
  · have hC : (stepC tn (popL L) b).err = 0 := by
      rw [h5] at q
      unfold stepF at q
      split at q
      · exact int_stick q
      · exact str_stick q
    have := step_err hC
    rw [hL]
    unfold stepF
    split
    · simp only [List.length_cons, (hst _).1]; omega
    · simp only [(hst _).1]; omega
  · rcases List.mem_append.1 hz with hz | hz
    · exact h.sm z hz
    · simp only [List.mem_singleton] at hz
      rw [hz, hx]
      unfold stepF
      split
      · exact ⟨hnm, Nat.zero_le _⟩
      · exact ⟨hnm, by show (strR (stepC tn (popL L) b) 8192).1.length ≤ 20000; omega⟩
  · rw [hL] at ho
    unfold stepF at ho
    split at ho
    · rcases List.mem_cons.1 ho with rfl | ho
      · exact ⟨by show (0 : Int) ≤ ((intR (stepC tn (popL L) b) 64).1 : Int); omega, by show ((intR (stepC tn (popL L) b) 64).1 : Int) ≤ 64; omega⟩
      · exact (hst _).2 o ho
    · exact (hst _).2 o ho
theorem PI.stop {b0 b : Bl} {tn : Nat} {l : List Nd} {L : List Op} (h : PI b0 tn l L b) (ht : tn ≤ 70) (hn : ¬ (tn < 70 ∧ b.err = 0)) : refL 70 [] [] b0 = (l, b) := by
  rw [h.eq]
  by_cases e : tn = 70
  · rw [e]; rfl
  · exact ref_stuck (fun q => hn ⟨by omega, q⟩) (by omega)
theorem PI.brk {b0 b : Bl} {tn : Nat} {l : List Nd} {L : List Op} (h : PI b0 tn l L b) (ht : tn < 70) (hb : b.err = 0) (hl : l.length = tn) (h0 : 0 < tn) (hp : popL L = []) : refL 70 [] [] b0 = (l, b) := by
  rw [h.eq, show 70 - tn = (70 - (tn + 1)) + 1 from by omega, refL, if_neg (fun q => q hb), if_pos ⟨fun e => by rw [e] at hl; simp at hl; omega, hp⟩]
/-- is the last one read? -/
def Pz : List Op → Prop
  | [] => False
  | o :: _ => o.left = 0
theorem pz_cons {L : List Op} (h : Pz L) : ∃ o os, L = o :: os ∧ o.left = 0 := by
  cases L with
  | nil => exact absurd h (fun q => q)
  | cons o os => exact ⟨o, os, rfl, h⟩
theorem pop_zero {o : Op} {os : List Op} (h : o.left = 0) : popL (o :: os) = popL os := by unfold popL; rw [List.dropWhile_cons, if_pos (by simpa using h)]
theorem pop_stop {L : List Op} (h : ¬ Pz L) : popL L = L := by
  cases L with
  | nil => rfl
  | cons o os => unfold popL; rw [List.dropWhile_cons, if_neg (by simpa [Pz] using h)]
theorem rev_last {o : Op} {os : List Op} {n : Nat} (h : (o :: os).length = n) : ((o :: os).reverse.map opR)[n - 1]? = some (opR o) := by
  simp only [List.length_cons] at h
  subst h
  rw [List.reverse_cons, List.map_append, List.getElem?_append_right (by simp)]
  simp
theorem rev_take {o : Op} {os : List Op} {n : Nat} (h : (o :: os).length = n) : ((o :: os).reverse.map opR).take (n - 1) = os.reverse.map opR := by
  simp only [List.length_cons] at h
  subst h
  rw [List.reverse_cons, List.map_append, List.take_left' (by simp)]
theorem rev_push (o : Op) (os : List Op) : (o :: os).reverse.map opR = os.reverse.map opR ++ [opR o] := by rw [List.reverse_cons, List.map_append]; rfl
theorem kb_cases (b : Bl) (ln : Nat) : b.err ≠ 0 ∨ (b.err = 0 ∧ 64 ≤ ln) ∨ (b.err = 0 ∧ ¬ 64 ≤ ln) := by
  by_cases h : b.err = 0
  · by_cases k : 64 ≤ ln
    · exact .inr (.inl ⟨h, k⟩)
    · exact .inr (.inr ⟨h, k⟩)
  · exact .inl h
theorem refP_big {s : List UInt8} (h : 32768 < s.length) : refP s = ([], 5) := by unfold refP; rw [if_pos h]
theorem refP_form {s : List UInt8} (h : ¬ 32768 < s.length) (k : s.take 4 ≠ mark) : refP s = ([], 2) := by unfold refP; rw [if_neg h, if_pos k]
theorem refP_end {s : List UInt8} {l : List Nd} {b : Bl} (h : ¬ 32768 < s.length) (k : ¬ s.take 4 ≠ mark) (e : refL 70 [] [] ⟨s.drop 4, 0⟩ = (l, b)) : refP s = if closeE b ≠ 0 then ([], closeE b) else if refChk l ≠ 0 then ([], refChk l) else (l, 0) := by unfold refP; rw [if_neg h, if_neg k, e]
theorem mark_short {s : List UInt8} (h : s.length < 4) : s.take 4 ≠ mark := fun e => by have := congrArg List.length e; rw [List.length_take] at this; simp only [mark, List.length_cons, List.length_nil] at this; omega
theorem op_one : ∀ {L : List Op}, ∀ u ∈ (L.reverse.map opR).flatten, u.oneCell' = true := by
  intro L u hu
  simp only [List.mem_flatten, List.mem_map] at hu
  obtain ⟨_, ⟨o, _, rfl⟩, hu⟩ := hu
  simp only [opR, List.mem_cons, List.not_mem_nil, or_false] at hu
  rcases hu with rfl | rfl | rfl <;> rfl
theorem stF_len (L : List Op) (nm : List UInt8) : (stF L nm).length = L.length := by cases L <;> rfl
theorem step_c {ln kk : Nat} {L : List Op} {b z1 z2 z3 z4 : Bl} {nm : List UInt8} (h1 : (nm, z1) = nmF L b) (hk : kk = (intR z1 4).1) (h2 : z2 = (intR z1 4).2) (h3 : z3 = kB ln (L.length + 1) z2) (h4 : z4 = kC kk z3) : z4 = stepC ln L b := by
  have e : z1 = (nmF L b).2 := congrArg (·.2) h1
  subst e
  unfold stepC
  rw [h4, hk, h3, h2]
theorem step_dir {ln kk sk : Nat} {L : List Op} {b z1 z4 : Bl} {nm : List UInt8} (h1 : (nm, z1) = nmF L b) (hk : kk = (intR z1 4).1) (h4 : z4 = stepC ln L b) (hk4 : kk = 4) (hs : L.length = sk) : ((⟨sk + 1, nm, (kk : Int), [], decide (0 < (intR z4 64).1), fiF L, riF L nm⟩ : Nd), (⟨(intR z4 64).1, [], false⟩ :: stF L nm : List Op), (intR z4 64).2) = stepF ln L b := by
  have e : z1 = (nmF L b).2 := congrArg (·.2) h1
  have en : nm = (nmF L b).1 := congrArg (·.1) h1
  subst e
  unfold stepF
  rw [if_pos (by omega), ← h4, ← hs, hk4, en]; rfl
theorem step_file {ln kk sk : Nat} {L : List Op} {b z1 z4 : Bl} {nm : List UInt8} (h1 : (nm, z1) = nmF L b) (hk : kk = (intR z1 4).1) (h4 : z4 = stepC ln L b) (hk4 : kk ≠ 4) (hs : L.length = sk) : ((⟨sk + 1, nm, (kk : Int), (strR z4 8192).1, false, fiF L, riF L nm⟩ : Nd), (stF L nm : List Op), (strR z4 8192).2) = stepF ln L b := by
  have e : z1 = (nmF L b).2 := congrArg (·.2) h1
  have en : nm = (nmF L b).1 := congrArg (·.1) h1
  subst e
  unfold stepF
  rw [if_neg (by omega), ← h4, ← hs, hk, en]
theorem par_bad {s : List UInt8} (h : (parF s).2 ≠ 0) : (parF s).1 = .mk [] 0 [] [] := by
  unfold parF at h ⊢
  by_cases h1 : 32768 < s.length
  · rw [if_pos h1]
  · by_cases h2 : s.take 4 ≠ mark
    · rw [if_neg h1, if_pos h2]
    · by_cases h3 : closeE (itemF 9 1 64 ⟨s.drop 4, 0⟩).2.2 ≠ 0
      · rw [if_neg h1, if_neg h2, if_pos h3]
      · by_cases h4 : chkE (itemF 9 1 64 ⟨s.drop 4, 0⟩).1 ≠ 0
        · rw [if_neg h1, if_neg h2, if_neg h3, if_pos h4]
        · rw [if_neg h1, if_neg h2, if_neg h3, if_neg h4] at h; exact absurd rfl h


end Cv
