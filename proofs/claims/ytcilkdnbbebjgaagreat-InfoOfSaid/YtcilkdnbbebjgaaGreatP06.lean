/-
  The walks: numbers, texts, trees as bytes.
-/
import Derived.Test.YtcilkdnbbebjgaaGreatV05
import Derived.Test.YtcilkdnbbebjgaaGreatN05
import Derived.Test.YtcilkdnbbebjgaaGreatProg
import Derived.KernelRfl
set_option linter.unusedVariables false
set_option linter.unusedSimpArgs false
set_option linter.unusedSectionVars false
set_option maxRecDepth 10000
namespace Cv
open Go Go.Proofs
/-! ## numbers and texts as bytes -/
def beB (n : Nat) : List UInt8 := if h : n = 0 then [] else beB (n / 256) ++ [UInt8.ofNat (n % 256)]
termination_by n
decreasing_by omega
theorem beB_0 : beB 0 = [] := by rw [beB, dif_pos rfl]
theorem beB_pos {n : Nat} (h : 0 < n) : beB n = beB (n / 256) ++ [UInt8.ofNat (n % 256)] := by rw [beB, dif_neg (by omega)]
theorem beB_len : ∀ (k n : Nat), n < 256 ^ k → (beB n).length ≤ k
  | 0, n, h => by have : n = 0 := by simpa using h
                  rw [this, beB_0]; simp
  | k + 1, n, h => by
    by_cases hn : n = 0
    · rw [hn, beB_0]; simp
    · rw [beB_pos (by omega), List.length_append]
      have := beB_len k (n / 256) (by rw [Nat.pow_succ] at h; exact Nat.div_lt_of_lt_mul (by rw [Nat.mul_comm]; exact h))
      simp; omega
def numB (n : Nat) : List UInt8 := UInt8.ofNat (beB n).length :: beB n
def strB (s : List UInt8) : List UInt8 := numB s.length ++ s
theorem numB_len {n : Nat} (h : n < 18446744073709551616) : (numB n).length ≤ 9 := by
  have := beB_len 8 n (by simpa using h)
  simp [numB]; omega
theorem be_step {n m : Nat} {acc : List UInt8} (h : beB n = beB m ++ acc) (hm : 0 < m) : beB n = beB (m / 256) ++ (UInt8.ofNat (m % 256) :: acc) := by rw [h, beB_pos hm]; simp
theorem be_bound {m l : Nat} (h : m < 256 ^ (8 - l)) (hm : 0 < m) : l < 8 ∧ m / 256 < 256 ^ (8 - (1 + l)) := by
  have hl : l < 8 := by
    by_cases h8 : l < 8
    · exact h8
    · rw [show 8 - l = 0 from by omega] at h; simp at h; omega
  refine ⟨hl, ?_⟩
  rw [show 8 - l = (8 - (1 + l)) + 1 from by omega, Nat.pow_succ] at h
  exact Nat.div_lt_of_lt_mul (by rw [Nat.mul_comm]; exact h)
theorem y_byte (m : Nat) : Y (UInt8.ofNat (((m : Int)) % 256).toNat) = Y (UInt8.ofNat (m % 256)) := congrArg Y (congrArg UInt8.ofNat (by omega))
theorem y_byte' {m : Nat} (h : m < 256) : Y (UInt8.ofNat (((m : Int)) % 256).toNat) = Y (UInt8.ofNat m) := congrArg Y (congrArg UInt8.ofNat (by omega))
theorem shr8 (m : Nat) : Int.fdiv (m : Int) (2 ^ (min (8 : Int).toNat IntKind.u64.bits)) = ((m / 256 : Nat) : Int) := by
  show Int.fdiv (m : Int) 256 = _
  rw [Int.fdiv_eq_ediv_of_nonneg _ (by omega)]; omega
theorem tm256 (m : Nat) : (m : Int).tmod 256 = ((m % 256 : Nat) : Int) := rfl
theorem td256 (m : Nat) : (m : Int).tdiv 256 = ((m / 256 : Nat) : Int) := rfl
/-! ## a tree's archive -/
mutual
def putT : Tr → List UInt8
  | .mk _ k t ks => numB k.toNat ++ (if k ≠ 4 then strB t else numB ks.length ++ putL ks)
def putL : List Tr → List UInt8
  | [] => []
  | y :: ys => strB y.n ++ putT y ++ putL ys
end
theorem putT_eq (x : Tr) : putT x = numB x.k.toNat ++ (if x.k ≠ 4 then strB x.t else numB x.ks.length ++ putL x.ks) := by cases x; rw [putT]; rfl
theorem putL_step {ks : List Tr} {i : Nat} {y : Tr} (h : ks[i]? = some y) : putL (ks.take (i + 1)) = putL (ks.take i) ++ (strB y.n ++ putT y) := by
  have app : ∀ (xs ys : List Tr), putL (xs ++ ys) = putL xs ++ putL ys := by
    intro xs
    induction xs with
    | nil => intro ys; simp [putL]
    | cons x xs ih => intro ys; rw [List.cons_append, putL, putL, ih]; simp
  rw [← take_snoc h, app]
  simp [putL]
theorem putL_le {ks : List Tr} {i : Nat} {y : Tr} (h : ks[i]? = some y) : (putL (ks.take i)).length + (strB y.n).length + (putT y).length ≤ (putL ks).length := by
  have app : ∀ (xs ys : List Tr), putL (xs ++ ys) = putL xs ++ putL ys := by
    intro xs
    induction xs with
    | nil => intro ys; simp [putL]
    | cons x xs ih => intro ys; rw [List.cons_append, putL, putL, ih]; simp
  have e : putL ks = putL (ks.take (i + 1)) ++ putL (ks.drop (i + 1)) := by rw [← app, List.take_append_drop]
  rw [e, putL_step h]; simp; omega
theorem strB_len {s : List UInt8} (h : s.length < 18446744073709551616) : (strB s).length ≤ 9 + s.length := by
  have := numB_len h
  simp [strB]; omega
theorem own0_ok {k : Int} {t : List UInt8} {f : Bool} {d : Nat} (h : own0 k t f d = 0) : (1 ≤ k ∧ k ≤ 4) ∧ (k ≠ 4 → f = false) ∧ (k = 4 → t = []) ∧ t.length ≤ 8192 ∧ d ≤ 8 ∧ (k = 3 → t ≠ [] ∧ t.length ≤ 24 ∧ (0 : UInt8) ∉ t) := by
  unfold own0 at h
  split at h
  · simp at h
  · rename_i h1
    split at h
    · simp at h
    · rename_i h2
      split at h
      · simp at h
      · rename_i h3
        split at h
        · simp at h
        · rename_i h4
          refine ⟨by omega, fun hk => ?_, fun hk => ?_, by omega, by omega, fun hk => ⟨fun q => h2 (.inr (.inr ⟨hk, q⟩)), Nat.le_of_not_lt fun q => h3 ⟨hk, .inl q⟩, fun q => h3 ⟨hk, .inr q⟩⟩⟩
          · cases f with
            | false => rfl
            | true => exact absurd (.inl ⟨hk, rfl⟩) h2
          · by_cases ht : t = []
            · exact ht
            · exact absurd (.inr (.inl ⟨hk, ht⟩)) h2
theorem chkL_ok : ∀ (ks : List Tr) (d : Nat) (p : Option (List UInt8)) (n : Nat), (chkL ks d p n).2 = 0 → ∀ y ∈ ks, nameB y.n = true ∧ (chkT y d).2 = 0
  | [], d, p, n, h => fun y hy => by cases hy
  | y :: ys, d, p, n, h => by
    rw [chkL] at h
    split at h
    · simp at h
    · rename_i h1
      split at h
      · rename_i h2; exact absurd h h2
      · rename_i h2
        have ih := chkL_ok ys d (some y.n) _ h
        intro z hz
        rcases List.mem_cons.1 hz with rfl | hz
        · refine ⟨?_, by simpa using h2⟩
          cases hb : nameB z.n with
          | true => rfl
          | false => exact absurd (.inl hb) h1
        · exact ih z hz
theorem chkT_ok {x : Tr} {d : Nat} (h : (chkT x d).2 = 0) : own0 x.k x.t (decide (0 < x.ks.length)) d = 0 ∧ ∀ y ∈ x.ks, nameB y.n = true ∧ (chkT y (d + 1)).2 = 0 := by
  rw [chkT_eq] at h
  split at h
  · rename_i h1; exact absurd h h1
  · rename_i h1; exact ⟨by simpa using h1, chkL_ok _ _ _ _ h⟩
theorem nameB_len {s : List UInt8} (h : nameB s = true) : s.length ≤ 24 := by unfold nameB at h; simp at h; omega
theorem putT_len (x : Tr) : ∀ d, (chkT x d).2 = 0 → x.count ≤ 900000 → (putT x).length + 40 ≤ 9000 * x.count := by
  refine Tr.ind (p := fun x => ∀ d, (chkT x d).2 = 0 → x.count ≤ 900000 → (putT x).length + 40 ≤ 9000 * x.count) (fun x ih d h hc => ?_) x
  obtain ⟨h0, h1⟩ := chkT_ok h
  obtain ⟨hk, _, _, ht, _, _⟩ := own0_ok h0
  have hce := x.count_eq
  have key : ∀ ks : List Tr, (∀ y ∈ ks, y ∈ x.ks) → (putL ks).length ≤ 9000 * countL ks := by
    intro ks
    induction ks with
    | nil => intro _; simp [putL]
    | cons y ys ihy =>
      intro hm
      have k1 := ihy (fun z hz => hm z (by simp [hz]))
      have hy : y ∈ x.ks := hm y (by simp)
      have hcy : y.count ≤ countL x.ks := count_mem hy
      obtain ⟨hn, hcy2⟩ := h1 y hy
      have k2 := ih y hy (d + 1) hcy2 (by omega)
      have k3 := nameB_len hn
      have k4 := strB_len (s := y.n) (by omega)
      simp only [putL, List.length_append, countL]
      omega
  rw [putT_eq, List.length_append]
  have n1 := numB_len (n := x.k.toNat) (by omega)
  split
  · have := strB_len (s := x.t) (by omega)
    omega
  · have := key x.ks (fun y hy => hy)
    have hl := count_le_len x.ks
    have := numB_len (n := x.ks.length) (by omega)
    rw [List.length_append]
    omega
/-! ## the archive, as the document tells it -/
def mark : List UInt8 := [99, 114, 118, 1]
def wrE (x : Tr) : Int := if chkE x ≠ 0 then chkE x else if 32768 < 4 + (putT x).length then 5 else 0
def wrS (x : Tr) : List UInt8 := if chkE x = 0 ∧ 4 + (putT x).length ≤ 32768 then mark ++ putT x else []
def chF (d : Nat) : List Nd → Nat
  | [] => 0
  | z :: zs => if d < z.dep then (if z.dep = d + 1 then 1 else 0) + chF d zs else 0
theorem chF_le (d : Nat) : ∀ l : List Nd, chF d l ≤ l.length
  | [] => by simp [chF]
  | z :: zs => by
    rw [chF]
    split
    · have := chF_le d zs
      simp only [List.length_cons]
      split <;> omega
    · simp
def ndT (z : Nd) (rest : List Nd) : List UInt8 := numB z.k.toNat ++ (if z.k = 4 then numB (chF z.dep rest) else strB z.t)
def textL : List Nd → List UInt8
  | [] => []
  | z :: zs => strB z.n ++ ndT z zs ++ textL zs
def textF : List Nd → List UInt8
  | [] => mark
  | z :: zs => mark ++ ndT z zs ++ textL zs
def Out (d : Nat) : List Nd → Prop
  | [] => True
  | z :: _ => z.dep ≤ d
theorem chF_out {d : Nat} : ∀ {l : List Nd}, Out d l → chF d l = 0
  | [], _ => rfl
  | z :: zs, h => by rw [chF, if_neg (by simp only [Out] at h; omega)]
theorem Out.up {d e : Nat} (h : d ≤ e) : ∀ {l : List Nd}, Out d l → Out e l
  | [], _ => trivial
  | z :: zs, k => by simp only [Out] at k ⊢; omega
theorem told_head (y : Tr) (nm : List UInt8) (d : Nat) (f r : Bool) (l : List Nd) : Out d (toldT y nm d f r ++ l) := by rw [toldT_eq]; exact Nat.le_refl _
theorem toldL_out (d : Nat) (p : Option (List UInt8)) : ∀ (ks : List Tr) {rest : List Nd}, Out d rest → Out d (toldL ks d p ++ rest)
  | [], rest, h => by rw [toldL_nil]; exact h
  | y :: ys, rest, h => by rw [toldL_cons, List.append_assoc]; exact told_head y _ _ _ _ _
theorem chF_told (y : Tr) : ∀ (d : Nat) (nm : List UInt8) (e : Nat) (f r : Bool) (rest : List Nd), d < e → chF d (toldT y nm e f r ++ rest) = (if e = d + 1 then 1 else 0) + chF d rest := by
  refine Tr.ind (p := fun y => ∀ (d : Nat) (nm : List UInt8) (e : Nat) (f r : Bool) (rest : List Nd), d < e → chF d (toldT y nm e f r ++ rest) = (if e = d + 1 then 1 else 0) + chF d rest) (fun y ih d nm e f r rest h => ?_) y
  rw [toldT_eq, List.cons_append, chF, if_pos h]
  congr 1
  have key : ∀ (ks : List Tr) (p : Option (List UInt8)), (∀ z ∈ ks, z ∈ y.ks) → chF d (toldL ks (e + 1) p ++ rest) = chF d rest := by
    intro ks
    induction ks with
    | nil => intro p _; rw [toldL_nil]; rfl
    | cons z zs ihz =>
      intro p hz
      rw [toldL_cons, List.append_assoc, ih z (hz z (by simp)) d _ (e + 1) _ _ _ (by omega), if_neg (by omega), ihz _ (fun w hw => hz w (by simp [hw]))]
      simp
  exact key y.ks none (fun z hz => hz)
theorem chF_kids (d : Nat) : ∀ (ks : List Tr) (p : Option (List UInt8)) {rest : List Nd}, Out d rest → chF d (toldL ks (d + 1) p ++ rest) = ks.length
  | [], p, rest, h => by rw [toldL_nil]; exact chF_out h
  | y :: ys, p, rest, h => by
    rw [toldL_cons, List.append_assoc, chF_told y d _ (d + 1) _ _ _ (by omega), if_pos rfl, chF_kids d ys _ h]
    simp; omega
theorem nd_told {x : Tr} {d : Nat} {nm : List UInt8} {f r : Bool} {rest : List Nd} (h : Out d rest) : ndT ⟨d, nm, x.k, x.t, decide (0 < x.ks.length), f, r⟩ (toldL x.ks (d + 1) none ++ rest) ++ (if x.k ≠ 4 then [] else putL x.ks) = putT x := by
  rw [putT_eq, ndT]
  simp only
  rw [chF_kids d _ _ h]
  by_cases hk : x.k = 4 <;> simp [hk]
theorem textL_told (x : Tr) : ∀ (nm : List UInt8) (d : Nat) (f r : Bool) (rest : List Nd), (chkT x d).2 = 0 → Out d rest → textL (toldT x nm d f r ++ rest) = strB nm ++ putT x ++ textL rest := by
  refine Tr.ind (p := fun x => ∀ (nm : List UInt8) (d : Nat) (f r : Bool) (rest : List Nd), (chkT x d).2 = 0 → Out d rest → textL (toldT x nm d f r ++ rest) = strB nm ++ putT x ++ textL rest) (fun x ih nm d f r rest hc h => ?_) x
  obtain ⟨h0, h1⟩ := chkT_ok hc
  obtain ⟨_, hkf, _⟩ := own0_ok h0
  have key : ∀ (ks : List Tr) (p : Option (List UInt8)), (∀ z ∈ ks, z ∈ x.ks) → textL (toldL ks (d + 1) p ++ rest) = putL ks ++ textL rest := by
    intro ks
    induction ks with
    | nil => intro p _; rw [toldL_nil]; simp [putL]
    | cons z zs ihz =>
      intro p hz
      rw [toldL_cons, List.append_assoc, ih z (hz z (by simp)) z.n (d + 1) _ _ _ (h1 z (hz z (by simp))).2 (toldL_out (d + 1) _ _ (h.up (by omega))), ihz _ (fun w hw => hz w (by simp [hw])), putL]
      simp
  rw [toldT_eq, List.cons_append, textL, key x.ks none (fun z hz => hz), ← nd_told (x := x) (nm := nm) (f := f) (r := r) h]
  by_cases hk : x.k = 4
  · simp [hk]
  · have hks : x.ks = [] := by have := hkf hk; simpa using this
    simp [hk, hks, putL]
theorem text_told {x : Tr} (hc : (chkT x 1).2 = 0) : textF (toldT x [] 1 true true) = mark ++ putT x := by
  have h := textL_told x [] 1 true true [] hc trivial
  rw [List.append_nil] at h
  rw [toldT_eq] at h ⊢
  rw [textL, textL] at h
  rw [textF]
  have e : strB [] ++ (ndT ⟨1, [], x.k, x.t, decide (0 < x.ks.length), true, true⟩ (toldL x.ks (1 + 1) none) ++ textL (toldL x.ks (1 + 1) none)) = strB [] ++ putT x := by simpa using h
  have e2 := List.append_cancel_left e
  rw [List.append_assoc, e2]
theorem text_step {l : List Nd} {i : Nat} {z : Nd} (h : l[i]? = some z) (hi : 0 < i) {s : List UInt8} (hs : textF l = s ++ textL (l.drop i)) : textF l = (s ++ strB z.n ++ ndT z (l.drop (i + 1))) ++ textL (l.drop (i + 1)) := by
  have hl := (List.getElem?_eq_some_iff.1 h).1
  have e : l.drop i = z :: l.drop (i + 1) := by rw [List.drop_eq_getElem_cons hl]; congr 1; exact (List.getElem?_eq_some_iff.1 h).2
  rw [hs, e, textL]; simp
theorem text_first {l : List Nd} {z : Nd} (h : l[0]? = some z) : textF l = (mark ++ ndT z (l.drop 1)) ++ textL (l.drop 1) := by
  cases l with
  | nil => simp at h
  | cons w ws => simp at h; subst h; rw [textF]; simp
theorem be_zero {m i : Nat} (h : m < 256 ^ (8 - i)) (hn : ¬ (i < 8 ∧ 0 < m)) : m = 0 := by
  by_cases h8 : i < 8
  · omega
  · rw [show 8 - i = 0 from by omega] at h; simpa using h
theorem ch_step {z y : Nd} {l : List Nd} {i : Nat} (h : (z :: l)[i]? = some y) (hi : 1 ≤ i) (hd : z.dep < y.dep) : chF z.dep ((z :: l).drop i) = (if y.dep = z.dep + 1 then 1 else 0) + chF z.dep ((z :: l).drop (i + 1)) := by
  have hl := (List.getElem?_eq_some_iff.1 h).1
  have e : (z :: l).drop i = y :: (z :: l).drop (i + 1) := by rw [List.drop_eq_getElem_cons hl]; congr 1; exact (List.getElem?_eq_some_iff.1 h).2
  rw [e, chF, if_pos hd]
theorem ch_stop {z : Nd} {l : List Nd} {i : Nat} (hi : 1 ≤ i) (h : ∀ y, (z :: l)[i]? = some y → ¬ z.dep < y.dep) : chF z.dep ((z :: l).drop i) = 0 := by
  cases e : (z :: l).drop i with
  | nil => rfl
  | cons y ys =>
    have : (z :: l)[i]? = some y := by
      have : ((z :: l).drop i)[0]? = some y := by rw [e]; rfl
      simpa using this
    rw [chF, if_neg (h y this)]
theorem gd_of {α : Type} [Inhabited α] {l : List α} {i : Nat} {y : α} (h : l[i]? = some y) : gd l i = y := by unfold gd; rw [List.getD_eq_getElem?_getD, h]; rfl
theorem text_next {l : List Nd} {z : Nd} {i : Nat} {acc s1 s3 : List UInt8} (hz : l[i]? = some z) (hI : (i = 0 ∧ acc = mark) ∨ (0 < i ∧ textF l = acc ++ textL (l.drop i))) (h1 : s1 = acc ++ (if 0 < i then strB z.n else [])) (h3 : s3 = s1 ++ ndT z (l.drop (i + 1))) : textF l = s3 ++ textL (l.drop (i + 1)) := by
  rcases hI with ⟨rfl, rfl⟩ | ⟨hi, hI⟩
  · rw [h3, h1, if_neg (by omega), List.append_nil]; exact text_first hz
  · rw [h3, h1, if_pos hi]; exact text_step hz hi hI
theorem text_end {l : List Nd} {i : Nat} {acc : List UInt8} (hI : (i = 0 ∧ acc = mark) ∨ (0 < i ∧ textF l = acc ++ textL (l.drop i))) (hi : l.length ≤ i) : acc = textF l := by
  rcases hI with ⟨rfl, rfl⟩ | ⟨_, hI⟩
  · have : l = [] := List.length_eq_zero_iff.1 (by omega)
    subst this; rfl
  · rw [hI, List.drop_of_length_le hi]; simp [textL]
theorem wr_bad {x : Tr} (h : chkE x ≠ 0) : wrS x = [] ∧ wrE x = chkE x := ⟨by unfold wrS; rw [if_neg (fun q => h q.1)], by unfold wrE; rw [if_pos h]⟩
theorem wr_big {x : Tr} (h : chkE x = 0) (k : 32768 < 4 + (putT x).length) : wrS x = [] ∧ wrE x = 5 := ⟨by unfold wrS; rw [if_neg (fun q => by omega)], by unfold wrE; rw [if_neg (fun q => q h), if_pos k]⟩
theorem wr_ok {x : Tr} (h : chkE x = 0) (k : ¬ 32768 < 4 + (putT x).length) : wrS x = mark ++ putT x ∧ wrE x = 0 := ⟨by unfold wrS; rw [if_pos ⟨h, by omega⟩], by unfold wrE; rw [if_neg (fun q => q h), if_neg k]⟩
theorem be_64 {m i : Nat} (h : m < 256 ^ (8 - i)) : m < 18446744073709551616 := by
  have : 256 ^ (8 - i) ≤ 256 ^ 8 := Nat.pow_le_pow_right (by decide) (by omega)
  omega


end Cv
set_option maxRecDepth 10000
namespace Cv
open Go Go.Proofs
/-! ## bytes read -/
end Cv
set_option maxRecDepth 10000
namespace Cv
open Go Go.Proofs
/-! ## items read -/
end Cv
set_option maxRecDepth 10000
namespace Cv
open Go Go.Proofs
/-! ## what is written is read, what is read is written -/
theorem num_1' : numB 1 = [1, 1] := by rw [numB, beB_pos (by decide), show 1 / 256 = 0 from rfl, beB_0]; rfl
theorem errL_all : ∀ {l : List Nd}, errL l = 0 → ∀ z ∈ l, ndErr z = 0
  | [], _, z, hz => by cases hz
  | w :: ws, h, z, hz => by
    rw [errL] at h
    split at h
    · rename_i h1; exact absurd h h1
    · rename_i h1
      rcases List.mem_cons.1 hz with rfl | hz
      · exact Decidable.not_not.1 h1
      · exact errL_all h z hz
theorem nd_ok {z : Nd} (h : ndErr z = 0) : own0 z.k z.t z.filled z.dep = 0 := by
  unfold ndErr at h
  split at h
  · cases h
  · exact h
theorem told_props {x : Tr} (hs : TAll Sm x) (ht : x.t.length ≤ 20000) (h : chkE x = 0) : ∀ z ∈ toldT x [] 1 true true, (0 ≤ z.k ∧ z.k ≤ 4) ∧ z.n.length ≤ 20000 ∧ z.t.length ≤ 20000 ∧ z.dep ≤ 1000000 := fun z hz => by
  rw [chkE_told] at h
  have he : errL (toldT x [] 1 true true) = 0 := by
    unfold refChk at h
    split at h
    · rename_i h1; exact absurd h h1
    · rename_i h1; exact Decidable.not_not.1 h1
  obtain ⟨hk, _, _, h8, hd, _⟩ := own0_ok (nd_ok (errL_all he z hz))
  have := told_sm x hs ht z hz
  exact ⟨by omega, by have := this.1; omega, by omega, by omega⟩
end Cv
