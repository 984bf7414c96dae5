/-
  The walks: the plain law of trees.
-/
import Derived.Test.YtcilkdnbbebjgaaGreatB05
import Derived.Test.YtcilkdnbbebjgaaGreatProg
import Derived.KernelRfl
set_option linter.unusedVariables false
set_option linter.unusedSimpArgs false
set_option linter.unusedSectionVars false
set_option maxRecDepth 10000
namespace Cv
open Go Go.Proofs
/-! ## the statements' own functions over trees -/
structure Nd where
  dep : Nat
  n : List UInt8
  k : Int
  t : List UInt8
  filled : Bool
  first : Bool
  rise : Bool
instance : Inhabited Nd := ⟨⟨0, [], 0, [], false, false, false⟩⟩
@[reducible] def nrow (z : Nd) : List Value := [.int .i64 z.dep, S z.n, .int .i64 z.k, S z.t, .bool z.filled, .bool z.first, .bool z.rise]
def txF (t : List UInt8) : List UInt8 := if 1000 < t.length then List.replicate 9000 0 else t.take 200
mutual
def fewT : Tr → Nat → Nat → Tr × Nat
  | .mk n k t ks, l, d => (⟨n, k, txF t, (fewL ks (l - 1) d).1⟩, (fewL ks (l - 1) d).2)
def fewL : List Tr → Nat → Nat → List Tr × Nat
  | [], l, _ => ([], l)
  | y :: ys, l, d => if 0 < l ∧ d < 12 then ((fewT y l (d + 1)).1.named (y.n.take 30) :: (fewL ys (fewT y l (d + 1)).2 d).1, (fewL ys (fewT y l (d + 1)).2 d).2) else ([], l)
end
theorem fewT_eq (x : Tr) (l d : Nat) : fewT x l d = (⟨x.n, x.k, txF x.t, (fewL x.ks (l - 1) d).1⟩, (fewL x.ks (l - 1) d).2) := by cases x; rw [fewT]; rfl
theorem count_named (x : Tr) (m : List UInt8) : (x.named m).count = x.count := by rw [Tr.count_eq, Tr.count_eq]; rfl
theorem few_count (x : Tr) : ∀ l d, 1 ≤ l → (fewT x l d).1.count + (fewT x l d).2 = l := by
  refine Tr.ind (p := fun x => ∀ l d, 1 ≤ l → (fewT x l d).1.count + (fewT x l d).2 = l) (fun x ih l d hl => ?_) x
  have key : ∀ ks : List Tr, (∀ y ∈ ks, ∀ l d, 1 ≤ l → (fewT y l d).1.count + (fewT y l d).2 = l) → ∀ l d, countL (fewL ks l d).1 + (fewL ks l d).2 = l := by
    intro ks
    induction ks with
    | nil => intro _ l d; simp [fewL, countL]
    | cons y ys ihy =>
      intro h l d
      rw [fewL]
      split
      · rename_i hc
        have h1 := h y (by simp) l (d + 1) (by omega)
        have h2 := ihy (fun z hz => h z (by simp [hz])) (fewT y l (d + 1)).2 d
        simp only [countL, count_named]
        omega
      · simp [countL]
  rw [fewT_eq, Tr.count_eq]
  have := key x.ks ih (l - 1) d
  simp only [Tr.ks] at this ⊢
  omega
structure FewI (x : Tr) (d i : Nat) (l0 : Nat) (acc : List Tr) (l : Nat) : Prop where
  eq : fewL x.ks l0 d = (acc ++ (fewL (x.ks.drop i) l d).1, (fewL (x.ks.drop i) l d).2)
  le : i + l ≤ l0 ∧ i ≤ x.ks.length
theorem FewI.zero (x : Tr) (d l0 : Nat) : FewI x d 0 l0 [] l0 := ⟨by simp, by omega⟩
theorem FewI.step {x y : Tr} {d i l0 l : Nat} {acc : List Tr} (h : FewI x d i l0 acc l) (hy : x.ks[i]? = some y) (hl : 0 < l) (hd : d < 12) : FewI x d (i + 1) l0 (acc ++ [(fewT y l (d + 1)).1.named (y.n.take 30)]) (fewT y l (d + 1)).2 := by
  have hi := (List.getElem?_eq_some_iff.1 hy).1
  have e : x.ks.drop i = y :: x.ks.drop (i + 1) := by
    rw [List.drop_eq_getElem_cons hi]; congr 1; exact (List.getElem?_eq_some_iff.1 hy).2
  have hc := few_count y l (d + 1) hl
  have hp := count_pos (fewT y l (d + 1)).1
  refine ⟨?_, by have := h.le; omega⟩
  rw [h.eq, e, fewL, if_pos ⟨hl, hd⟩]
  simp
theorem FewI.stop {x : Tr} {d i l0 l : Nat} {acc : List Tr} (h : FewI x d i l0 acc l) (hn : ¬ (i < x.ks.length ∧ 0 < l ∧ d < 12)) : fewL x.ks l0 d = (acc, l) := by
  rw [h.eq]
  by_cases hi : i < x.ks.length
  · rw [List.drop_eq_getElem_cons hi, fewL, if_neg (fun q => hn ⟨hi, q⟩)]; simp
  · rw [List.drop_of_length_le (by omega), fewL]; simp
inductive TAll (p : Tr → Prop) : Tr → Prop where
  | mk {x : Tr} (h : ∀ y ∈ x.ks, p y) (h2 : ∀ y ∈ x.ks, TAll p y) : TAll p x
theorem TAll.kid {p : Tr → Prop} {x y : Tr} (h : TAll p x) (hy : y ∈ x.ks) : p y ∧ TAll p y := by cases h with | mk h h2 => exact ⟨h y hy, h2 y hy⟩
theorem TAll.of {p : Tr → Prop} {x : Tr} (h : ∀ y ∈ x.ks, p y ∧ TAll p y) : TAll p x := .mk (fun y hy => (h y hy).1) (fun y hy => (h y hy).2)
theorem few_ind {p : Tr → Prop} (hp : ∀ (n : List UInt8) (k : Int) (t : List UInt8) (ks : List Tr), n.length ≤ 30 → p (.mk n k (txF t) ks)) (x : Tr) : ∀ l d, TAll p (fewT x l d).1 := by
  refine Tr.ind (p := fun x => ∀ l d, TAll p (fewT x l d).1) (fun x ih l d => ?_) x
  have key : ∀ ks : List Tr, (∀ y ∈ ks, ∀ l d, TAll p (fewT y l d).1) → ∀ l d, ∀ z ∈ (fewL ks l d).1, p z ∧ TAll p z := by
    intro ks
    induction ks with
    | nil => intro _ l d z hz; simp [fewL] at hz
    | cons y ys ihy =>
      intro h l d z hz
      rw [fewL] at hz
      split at hz
      · simp only [List.mem_cons] at hz
        rcases hz with rfl | hz
        · refine ⟨?_, ?_⟩
          · rw [fewT_eq]; exact hp _ _ _ _ (by simp; omega)
          · have := h y (by simp) l (d + 1)
            exact .of (fun z hz => this.kid hz)
        · exact ihy (fun z hz => h z (by simp [hz])) _ d z hz
      · simp at hz
  rw [fewT_eq]
  exact .of (key x.ks ih (l - 1) d)
theorem txF_len (t : List UInt8) : (txF t).length ≤ 20000 := by
  unfold txF
  split
  · rw [List.length_replicate]; omega
  · rw [List.length_take]; omega
def Sm (y : Tr) : Prop := y.n.length ≤ 20000 ∧ y.t.length ≤ 20000
theorem few_sm (x : Tr) (l d : Nat) : TAll Sm (fewT x l d).1 ∧ (fewT x l d).1.t.length ≤ 20000 := ⟨few_ind (fun n k t ks h => ⟨by simp only [Tr.n]; omega, txF_len t⟩) x l d, by rw [fewT_eq]; exact txF_len _⟩
/-! ### told -/
def risO (p : Option (List UInt8)) (m : List UInt8) : Bool := match p with | none => false | some q => bless q m
mutual
def toldT : Tr → List UInt8 → Nat → Bool → Bool → List Nd
  | .mk _ k t ks, nm, d, f, r => ⟨d, nm, k, t, decide (0 < ks.length), f, r⟩ :: toldL ks (d + 1) none
def toldL : List Tr → Nat → Option (List UInt8) → List Nd
  | [], _, _ => []
  | y :: ys, d, p => toldT y y.n d p.isNone (risO p y.n) ++ toldL ys d (some y.n)
end
theorem toldL_nil (d : Nat) (p : Option (List UInt8)) : toldL [] d p = [] := by unfold toldL; rfl
theorem toldL_cons (y : Tr) (ys : List Tr) (d : Nat) (p : Option (List UInt8)) : toldL (y :: ys) d p = toldT y y.n d p.isNone (risO p y.n) ++ toldL ys d (some y.n) := by rw [toldL.eq_def]
theorem toldT_eq (x : Tr) (nm : List UInt8) (d : Nat) (f r : Bool) : toldT x nm d f r = ⟨d, nm, x.k, x.t, decide (0 < x.ks.length), f, r⟩ :: toldL x.ks (d + 1) none := by cases x; rw [toldT]; rfl
def prv (ks : List Tr) (i : Nat) : Option (List UInt8) := if i = 0 then none else (ks[i - 1]?).map Tr.n
theorem prv_next {ks : List Tr} {i : Nat} {y : Tr} (h : ks[i]? = some y) : prv ks (i + 1) = some y.n := by simp [prv, h]
def risT (ks : List Tr) (i : Nat) (y : Tr) : Bool := risO (prv ks i) y.n
theorem toldL_drop {ks : List Tr} {i d : Nat} {y : Tr} (h : ks[i]? = some y) : toldL (ks.drop i) d (prv ks i) = toldT y y.n d (decide (i = 0)) (risT ks i y) ++ toldL (ks.drop (i + 1)) d (prv ks (i + 1)) := by
  have hi := (List.getElem?_eq_some_iff.1 h).1
  have e : ks.drop i = y :: ks.drop (i + 1) := by
    rw [List.drop_eq_getElem_cons hi]; congr 1; exact (List.getElem?_eq_some_iff.1 h).2
  rw [e, toldL_cons, prv_next h]
  congr 2
  unfold prv
  by_cases h0 : i = 0
  · simp [h0]
  · have : i - 1 < ks.length := by omega
    simp [h0, this]
structure ToldI (x : Tr) (d i : Nat) (l0 acc : List Nd) : Prop where
  eq : l0 ++ toldL x.ks d none = acc ++ toldL (x.ks.drop i) d (prv x.ks i)
theorem ToldI.zero (x : Tr) (d : Nat) (l0 : List Nd) : ToldI x d 0 l0 l0 := ⟨by simp [prv]⟩
theorem ToldI.step {x y : Tr} {d i : Nat} {l0 acc : List Nd} (h : ToldI x d i l0 acc) (hy : x.ks[i]? = some y) : ToldI x d (i + 1) l0 (acc ++ toldT y y.n d (decide (i = 0)) (risT x.ks i y)) := ⟨by rw [h.eq, toldL_drop hy, List.append_assoc]⟩
theorem ToldI.stop {x : Tr} {d i : Nat} {l0 acc : List Nd} (h : ToldI x d i l0 acc) (hi : x.ks.length ≤ i) : acc = l0 ++ toldL x.ks d none := by rw [h.eq, List.drop_of_length_le hi, toldL_nil, List.append_nil]
theorem told_len (x : Tr) : ∀ nm d f r, (toldT x nm d f r).length = x.count := by
  refine Tr.ind (p := fun x => ∀ nm d f r, (toldT x nm d f r).length = x.count) (fun x ih nm d f r => ?_) x
  have key : ∀ ks : List Tr, (∀ y ∈ ks, ∀ nm d f r, (toldT y nm d f r).length = y.count) → ∀ d p, (toldL ks d p).length = countL ks := by
    intro ks
    induction ks with
    | nil => intro _ d p; simp [toldL_nil, countL]
    | cons y ys ihy =>
      intro h d p
      rw [toldL_cons, List.length_append, h y (by simp), ihy (fun z hz => h z (by simp [hz])), countL]
  rw [toldT_eq, Tr.count_eq, List.length_cons, key x.ks ih]
  omega
/-! ### check -/
def own0 (k : Int) (t : List UInt8) (filled : Bool) (d : Nat) : Int :=
  if k < 1 ∨ 4 < k then 6 else if (k ≠ 4 ∧ filled = true) ∨ (k = 4 ∧ t ≠ []) ∨ (k = 3 ∧ t = []) then 6 else if k = 3 ∧ (24 < t.length ∨ 0 ∈ t) then 6 else if 8192 < t.length ∨ 8 < d then 5 else 0
mutual
def chkT : Tr → Nat → Nat × Int
  | .mk _ k t ks, d => if own0 k t (decide (0 < ks.length)) d ≠ 0 then (0, own0 k t (decide (0 < ks.length)) d) else chkL ks (d + 1) none 1
def chkL : List Tr → Nat → Option (List UInt8) → Nat → Nat × Int
  | [], _, _, n => (n, 0)
  | y :: ys, d, p, n => if nameB y.n = false ∨ (∃ q, p = some q ∧ bless q y.n = false) then (0, 6) else if (chkT y d).2 ≠ 0 then (0, (chkT y d).2) else chkL ys d (some y.n) (n + (chkT y d).1)
end
theorem chkT_eq (x : Tr) (d : Nat) : chkT x d = if own0 x.k x.t (decide (0 < x.ks.length)) d ≠ 0 then (0, own0 x.k x.t (decide (0 < x.ks.length)) d) else chkL x.ks (d + 1) none 1 := by cases x; rw [chkT]; rfl
theorem chkL_drop {ks : List Tr} {i d n : Nat} {y : Tr} (h : ks[i]? = some y) : chkL (ks.drop i) d (prv ks i) n = if nameB y.n = false ∨ (∃ q, prv ks i = some q ∧ bless q y.n = false) then (0, 6) else if (chkT y d).2 ≠ 0 then (0, (chkT y d).2) else chkL (ks.drop (i + 1)) d (prv ks (i + 1)) (n + (chkT y d).1) := by
  have hi := (List.getElem?_eq_some_iff.1 h).1
  have e : ks.drop i = y :: ks.drop (i + 1) := by
    rw [List.drop_eq_getElem_cons hi]; congr 1; exact (List.getElem?_eq_some_iff.1 h).2
  rw [e, chkL, prv_next h]
def ndErr (z : Nd) : Int := if 1 < z.dep ∧ (nameB z.n = false ∨ (z.first = false ∧ z.rise = false)) then 6 else own0 z.k z.t z.filled z.dep
def errL : List Nd → Int
  | [] => 0
  | z :: l => if ndErr z ≠ 0 then ndErr z else errL l
theorem errL_append : ∀ a b : List Nd, errL (a ++ b) = if errL a ≠ 0 then errL a else errL b
  | [], b => by simp [errL]
  | z :: a, b => by
    rw [List.cons_append, errL, errL, errL_append a b]
    by_cases h : ndErr z ≠ 0
    · rw [if_pos h, if_pos h, if_pos h]
    · rw [if_neg h, if_neg h]
def refChk (l : List Nd) : Int := if errL l ≠ 0 then errL l else if 64 < l.length then 5 else 0
theorem chk_kids (ks : List Tr) (h : ∀ y ∈ ks, ∀ d nm f r, 2 ≤ d → ((nameB nm = true ∧ (f = true ∨ r = true)) → errL (toldT y nm d f r) = (chkT y d).2) ∧ ((chkT y d).2 = 0 → (chkT y d).1 = y.count)) : ∀ d p n, 2 ≤ d → errL (toldL ks d p) = (chkL ks d p n).2 ∧ ((chkL ks d p n).2 = 0 → (chkL ks d p n).1 = n + countL ks) := by
  induction ks with
  | nil => intro d p n _; simp [toldL_nil, chkL, errL, countL]
  | cons y ys ihy =>
    intro d p n hd
    rw [toldL_cons, chkL, errL_append]
    by_cases hb : nameB y.n = false ∨ (∃ q, p = some q ∧ bless q y.n = false)
    · rw [if_pos hb]
      have e : errL (toldT y y.n d p.isNone (risO p y.n)) = 6 := by
        rw [toldT_eq, errL]
        have : ndErr ⟨d, y.n, y.k, y.t, decide (0 < y.ks.length), p.isNone, (risO p y.n)⟩ = 6 := by
          unfold ndErr
          rw [if_pos]
          refine ⟨by show 1 < d; omega, ?_⟩
          rcases hb with hb | ⟨q, rfl, hb⟩
          · exact .inl hb
          · exact .inr ⟨rfl, hb⟩
        rw [this]; simp
      rw [e]; simp
    · rw [if_neg hb]
      have hb' : nameB y.n = true ∧ (p.isNone = true ∨ (risO p y.n) = true) := by
        refine ⟨?_, ?_⟩
        · cases hn : nameB y.n with
          | true => rfl
          | false => exact absurd (.inl hn) hb
        · cases p with
          | none => exact .inl rfl
          | some q =>
            right
            cases hq : bless q y.n with
            | true => exact hq
            | false => exact absurd (.inr ⟨q, rfl, hq⟩) hb
      obtain ⟨h1, h2⟩ := h y (by simp) d y.n p.isNone (risO p y.n) hd
      rw [h1 hb']
      obtain ⟨h3, h4⟩ := ihy (fun z hz => h z (by simp [hz])) d (some y.n) (n + (chkT y d).1) hd
      rw [h3]
      by_cases hc : (chkT y d).2 ≠ 0
      · rw [if_pos hc, if_pos hc]; exact ⟨rfl, fun q => absurd q hc⟩
      · rw [if_neg hc, if_neg hc]
        refine ⟨rfl, fun q => ?_⟩
        rw [h4 q, h2 (by simpa using hc), countL]; omega
theorem chk_all (x : Tr) : ∀ d nm f r, ((2 ≤ d → nameB nm = true ∧ (f = true ∨ r = true)) → 1 ≤ d → errL (toldT x nm d f r) = (chkT x d).2) ∧ ((chkT x d).2 = 0 → 1 ≤ d → (chkT x d).1 = x.count) := by
  have key : ∀ x : Tr, (∀ y ∈ x.ks, ∀ d nm f r, 2 ≤ d → ((nameB nm = true ∧ (f = true ∨ r = true)) → errL (toldT y nm d f r) = (chkT y d).2) ∧ ((chkT y d).2 = 0 → (chkT y d).1 = y.count)) → ∀ d nm f r, ((2 ≤ d → nameB nm = true ∧ (f = true ∨ r = true)) → 1 ≤ d → errL (toldT x nm d f r) = (chkT x d).2) ∧ ((chkT x d).2 = 0 → 1 ≤ d → (chkT x d).1 = x.count) := by
    intro x ih d nm f r
    rw [toldT_eq, chkT_eq, errL]
    have e : (2 ≤ d → nameB nm = true ∧ (f = true ∨ r = true)) → ndErr ⟨d, nm, x.k, x.t, decide (0 < x.ks.length), f, r⟩ = own0 x.k x.t (decide (0 < x.ks.length)) d := by
      intro h
      unfold ndErr
      rw [if_neg]
      rintro ⟨h1, h2⟩
      obtain ⟨h3, h4⟩ := h h1
      rcases h2 with h2 | ⟨h2, h5⟩
      · rw [h3] at h2; cases h2
      · rcases h4 with h4 | h4
        · simp only at h2; rw [h4] at h2; cases h2
        · simp only at h5; rw [h4] at h5; cases h5
    refine ⟨fun h hd => ?_, fun h hd => ?_⟩
    · rw [e h]
      by_cases hc : own0 x.k x.t (decide (0 < x.ks.length)) d ≠ 0
      · rw [if_pos hc, if_pos hc]
      · rw [if_neg hc, if_neg hc]
        exact (chk_kids x.ks ih (d + 1) none 1 (by omega)).1
    · by_cases hc : own0 x.k x.t (decide (0 < x.ks.length)) d ≠ 0
      · rw [if_pos hc] at h; exact absurd h hc
      · rw [if_neg hc] at h ⊢
        rw [(chk_kids x.ks ih (d + 1) none 1 (by omega)).2 h, Tr.count_eq]
  have kids : ∀ x : Tr, ∀ d nm f r, 2 ≤ d → ((nameB nm = true ∧ (f = true ∨ r = true)) → errL (toldT x nm d f r) = (chkT x d).2) ∧ ((chkT x d).2 = 0 → (chkT x d).1 = x.count) := by
    intro x
    refine Tr.ind (p := fun x => ∀ d nm f r, 2 ≤ d → ((nameB nm = true ∧ (f = true ∨ r = true)) → errL (toldT x nm d f r) = (chkT x d).2) ∧ ((chkT x d).2 = 0 → (chkT x d).1 = x.count)) (fun x ih d nm f r hd => ?_) x
    obtain ⟨h1, h2⟩ := key x ih d nm f r
    exact ⟨fun h => h1 (fun _ => h) (by omega), fun h => h2 h (by omega)⟩
  intro d nm f r
  exact key x (fun y _ => kids y) d nm f r
theorem chk_told (x : Tr) : refChk (toldT x [] 1 true true) = if (chkT x 1).2 ≠ 0 then (chkT x 1).2 else if 64 < (chkT x 1).1 then 5 else 0 := by
  obtain ⟨h1, h2⟩ := chk_all x 1 [] true true
  unfold refChk
  rw [h1 (fun h => by omega) (Nat.le_refl _), told_len]
  by_cases h : (chkT x 1).2 ≠ 0
  · rw [if_pos h, if_pos h]
  · rw [if_neg h, if_neg h, h2 (by simpa using h) (Nat.le_refl _)]

def tx1 (t : List UInt8) : List UInt8 := if 1000 < t.length then List.replicate 9000 0 else t
theorem tx1_big {t : List UInt8} (h : 1000 < t.length) : List.replicate 9000 0 = tx1 t := by unfold tx1; rw [if_pos h]
theorem tx1_small {t : List UInt8} (h : ¬ 1000 < t.length) : t = tx1 t := by unfold tx1; rw [if_neg h]
theorem tx2_small {t : List UInt8} (h : (tx1 t).length ≤ 1000) : (tx1 t).take 200 = txF t := by
  unfold tx1 at h ⊢; unfold txF
  split
  · rename_i h1; rw [if_pos h1, List.length_replicate] at h; omega
  · rfl
theorem tx2_big {t : List UInt8} (h : ¬ (tx1 t).length ≤ 1000) : tx1 t = txF t := by
  unfold tx1 at h ⊢; unfold txF
  split
  · rfl
  · rename_i h1; rw [if_neg h1] at h; omega
theorem Y_inj {a b : UInt8} (h : (a.toNat : Int) = (b.toNat : Int)) : a = b := UInt8.toNat_inj.1 (by omega)
theorem not_next {l : List UInt8} {c x : UInt8} {i : Nat} (h : c ∉ l.take i) (hx : l[i]? = some x) (hn : x ≠ c) : c ∉ l.take (i + 1) := by
  rw [List.take_add_one, hx]
  simp only [Option.toList_some, List.mem_append, List.mem_singleton]
  rintro (q | q)
  · exact h q
  · exact hn q.symm
theorem badN_mem (s : List UInt8) : badN s = (decide ((47 : UInt8) ∈ s) || decide ((0 : UInt8) ∈ s)) := by
  induction s with
  | nil => rfl
  | cons b s ih =>
    have e : badN (b :: s) = ((b == 47 || b == 0) || badN s) := by simp [badN]
    rw [e, ih]
    rw [Bool.eq_iff_iff]
    simp only [List.mem_cons, Bool.or_eq_true, decide_eq_true_eq, beq_iff_eq]
    constructor
    · rintro ((h | h) | (h | h))
      · exact .inl (.inl h.symm)
      · exact .inr (.inl h.symm)
      · exact .inl (.inr h)
      · exact .inr (.inr h)
    · rintro ((h | h) | (h | h))
      · exact .inl (.inl h.symm)
      · exact .inr (.inl h)
      · exact .inl (.inr h.symm)
      · exact .inr (.inr h)
theorem nameB_eq (s : List UInt8) : nameB s = (decide (0 < s.length) && decide (s.length ≤ 24) && decide (s ≠ [46]) && decide (s ≠ [46, 46]) && !(decide ((47 : UInt8) ∈ s) || decide ((0 : UInt8) ∈ s))) := by
  unfold nameB
  rw [badN_mem]
  congr 4
  cases s <;> simp

theorem nd_one {xs : List Nd} : ∀ u ∈ (xs.map nrow).flatten, u.oneCell' = true := by
  intro u hu
  obtain ⟨r, hr, hu⟩ := List.mem_flatten.1 hu
  obtain ⟨x, _, rfl⟩ := List.mem_map.1 hr
  simp only [nrow, List.mem_cons, List.not_mem_nil, or_false] at hu
  rcases hu with rfl | rfl | rfl | rfl | rfl | rfl | rfl <;> rfl
theorem ris_pos {ks : List Tr} {i : Nat} {y : Tr} (h : 0 < i) (hi : i ≤ ks.length) : risT ks i y = bless (gd ks (i - 1)).n y.n := by
  have e : ks[i - 1]? = some (gd ks (i - 1)) := gd_get (by omega)
  have : prv ks i = some (gd ks (i - 1)).n := by unfold prv; rw [if_neg (by omega), e]; rfl
  unfold risT; rw [this]; rfl
theorem own0_1 {k : Int} {t : List UInt8} {f : Bool} {d : Nat} (h : k < 1 ∨ 4 < k) : own0 k t f d = 6 := by unfold own0; rw [if_pos h]
theorem own0_2 {k : Int} {t : List UInt8} {f : Bool} {d : Nat} (h1 : ¬ (k < 1 ∨ 4 < k)) (h : (k ≠ 4 ∧ f = true) ∨ (k = 4 ∧ t ≠ []) ∨ (k = 3 ∧ t = [])) : own0 k t f d = 6 := by unfold own0; rw [if_neg h1, if_pos h]
theorem own0_3 {k : Int} {t : List UInt8} {f : Bool} {d : Nat} (h1 : ¬ (k < 1 ∨ 4 < k)) (h2 : ¬ ((k ≠ 4 ∧ f = true) ∨ (k = 4 ∧ t ≠ []) ∨ (k = 3 ∧ t = []))) (h : k = 3 ∧ (24 < t.length ∨ 0 ∈ t)) : own0 k t f d = 6 := by unfold own0; rw [if_neg h1, if_neg h2, if_pos h]
theorem own0_4 {k : Int} {t : List UInt8} {f : Bool} {d : Nat} (h1 : ¬ (k < 1 ∨ 4 < k)) (h2 : ¬ ((k ≠ 4 ∧ f = true) ∨ (k = 4 ∧ t ≠ []) ∨ (k = 3 ∧ t = []))) (h3 : ¬ (k = 3 ∧ (24 < t.length ∨ 0 ∈ t))) (h : 8192 < t.length ∨ 8 < d) : own0 k t f d = 5 := by unfold own0; rw [if_neg h1, if_neg h2, if_neg h3, if_pos h]
theorem own0_5 {k : Int} {t : List UInt8} {f : Bool} {d : Nat} (h1 : ¬ (k < 1 ∨ 4 < k)) (h2 : ¬ ((k ≠ 4 ∧ f = true) ∨ (k = 4 ∧ t ≠ []) ∨ (k = 3 ∧ t = []))) (h3 : ¬ (k = 3 ∧ (24 < t.length ∨ 0 ∈ t))) (h : ¬ (8192 < t.length ∨ 8 < d)) : own0 k t f d = 0 := by unfold own0; rw [if_neg h1, if_neg h2, if_neg h3, if_neg h]
theorem chk_bad {x : Tr} {d : Nat} {e : Int} (h : own0 x.k x.t (decide (0 < x.ks.length)) d = e) (he : e ≠ 0) : chkT x d = (0, e) := by rw [chkT_eq, h, if_pos he]
theorem chk_go {x : Tr} {d : Nat} (h : own0 x.k x.t (decide (0 < x.ks.length)) d = 0) : chkT x d = chkL x.ks (d + 1) none 1 := by rw [chkT_eq, h, if_neg (by simp)]
def ChkI (x : Tr) (d i n : Nat) : Prop := chkT x d = chkL (x.ks.drop i) (d + 1) (prv x.ks i) n
theorem ChkI.zero {x : Tr} {d : Nat} (h : own0 x.k x.t (decide (0 < x.ks.length)) d = 0) : ChkI x d 0 1 := by unfold ChkI; rw [chk_go h]; simp [prv]
theorem ChkI.bad {x y : Tr} {d i n : Nat} (h : ChkI x d i n) (hy : x.ks[i]? = some y) (hb : nameB y.n = false ∨ (0 < i ∧ bless (gd x.ks (i - 1)).n y.n = false)) : chkT x d = (0, 6) := by
  unfold ChkI at h
  rw [h, chkL_drop hy, if_pos]
  rcases hb with hb | ⟨hb, hb2⟩
  · exact .inl hb
  · refine .inr ⟨_, ?_, hb2⟩
    have hi := (List.getElem?_eq_some_iff.1 hy).1
    have e : x.ks[i - 1]? = some (gd x.ks (i - 1)) := gd_get (by omega)
    unfold prv; rw [if_neg (by omega), e]; rfl
theorem ChkI.kid {x y : Tr} {d i n : Nat} (h : ChkI x d i n) (hy : x.ks[i]? = some y) (hb : ¬ (nameB y.n = false ∨ (0 < i ∧ bless (gd x.ks (i - 1)).n y.n = false))) : chkT x d = if (chkT y (d + 1)).2 ≠ 0 then (0, (chkT y (d + 1)).2) else chkL (x.ks.drop (i + 1)) (d + 1) (prv x.ks (i + 1)) (n + (chkT y (d + 1)).1) := by
  unfold ChkI at h
  rw [h, chkL_drop hy, if_neg]
  rintro (q | ⟨q, h1, h2⟩)
  · exact hb (.inl q)
  · unfold prv at h1
    by_cases h0 : i = 0
    · rw [if_pos h0] at h1; cases h1
    · have hi := (List.getElem?_eq_some_iff.1 hy).1
      have e : x.ks[i - 1]? = some (gd x.ks (i - 1)) := gd_get (by omega)
      rw [if_neg h0, e] at h1
      injection h1 with h1
      subst h1
      exact hb (.inr ⟨by omega, h2⟩)
theorem ChkI.stop {x : Tr} {d i n : Nat} (h : ChkI x d i n) (hi : x.ks.length ≤ i) : chkT x d = (n, 0) := by
  unfold ChkI at h
  rw [h, List.drop_of_length_le hi, chkL]
theorem chk_le (x : Tr) (d : Nat) (hd : 1 ≤ d) : (chkT x d).1 ≤ x.count := by
  by_cases h : (chkT x d).2 = 0
  · exact Nat.le_of_eq ((chk_all x d [] true true).2 h hd)
  · rw [chkT_eq] at h ⊢
    by_cases hc : own0 x.k x.t (decide (0 < x.ks.length)) d ≠ 0
    · rw [if_pos hc]; exact Nat.zero_le _
    · rw [if_neg hc] at h ⊢
      have : ∀ ks d p n, (chkL ks d p n).2 ≠ 0 → (chkL ks d p n).1 = 0 := by
        intro ks
        induction ks with
        | nil => intro d p n h; simp [chkL] at h
        | cons y ys ihy =>
          intro d p n h
          rw [chkL] at h ⊢
          split
          · rfl
          · rename_i h3
            rw [if_neg h3] at h
            split
            · rfl
            · rename_i h4
              rw [if_neg h4] at h
              exact ihy _ _ _ h
      rw [this _ _ _ _ h]; exact Nat.zero_le _
def NdSm (z : Nd) : Prop := z.n.length ≤ 20000 ∧ z.t.length ≤ 20000
theorem errL_drop {l : List Nd} {i : Nat} {z : Nd} (h : l[i]? = some z) : errL (l.drop i) = if ndErr z ≠ 0 then ndErr z else errL (l.drop (i + 1)) := by
  have hi := (List.getElem?_eq_some_iff.1 h).1
  have e : l.drop i = z :: l.drop (i + 1) := by
    rw [List.drop_eq_getElem_cons hi]; congr 1; exact (List.getElem?_eq_some_iff.1 h).2
  rw [e, errL]
theorem ref_hit {l : List Nd} {i : Nat} {z : Nd} {e : Int} (hI : errL l = errL (l.drop i)) (h : l[i]? = some z) (he : ndErr z = e) (h0 : e ≠ 0) : refChk l = e := by
  unfold refChk
  rw [hI, errL_drop h, he, if_pos h0, if_pos h0]
theorem nd_1 {z : Nd} (h : 1 < z.dep ∧ (nameB z.n = false ∨ (z.first = false ∧ z.rise = false))) : ndErr z = 6 := by unfold ndErr; rw [if_pos h]
theorem nd_2 {z : Nd} {e : Int} (h : ¬ (1 < z.dep ∧ (nameB z.n = false ∨ (z.first = false ∧ z.rise = false)))) (he : own0 z.k z.t z.filled z.dep = e) : ndErr z = e := by unfold ndErr; rw [if_neg h, he]
theorem own0_12 {k : Int} {t : List UInt8} {f : Bool} {d : Nat} (h : (k < 1 ∨ 4 < k) ∨ (k ≠ 4 ∧ f = true) ∨ (k = 4 ∧ t ≠ []) ∨ (k = 3 ∧ t = [])) : own0 k t f d = 6 := by
  by_cases h1 : k < 1 ∨ 4 < k
  · exact own0_1 h1
  · exact own0_2 h1 (h.resolve_left h1)
theorem ref_end {l : List Nd} {i : Nat} (hI : errL l = errL (l.drop i)) (h : l.length ≤ i) : refChk l = if 64 < l.length then 5 else 0 := by
  have e0 : errL l = 0 := by rw [hI, List.drop_of_length_le h]; rfl
  rw [refChk, e0, if_neg (by simp)]
/-! ### entries with their cells -/
instance : Inhabited ET := ⟨(default, none, 0, 0)⟩
theorem rt_leaf {h : Hp} {n : List UInt8} {k : Int} {t : List UInt8} : RT h (.mk n k t []) [S n, .int .i64 k, S t, .slice none 0 0] := by
  have := RT.mk (h := h) (x := .mk n k t []) (a := none) (len := 0) (cap := 0) (rows := []) rsl_nil rfl (fun i y r h1 h2 => by simp [Tr.ks] at h1)
  exact this
def chkE (x : Tr) : Int := if (chkT x 1).2 = 0 ∧ 64 < (chkT x 1).1 then 5 else (chkT x 1).2
theorem chkE_told (x : Tr) : chkE x = refChk (toldT x [] 1 true true) := by
  rw [chk_told]; unfold chkE
  by_cases h : (chkT x 1).2 = 0
  · rw [if_neg (show ¬ (chkT x 1).2 ≠ 0 from fun q => q h)]
    by_cases h2 : 64 < (chkT x 1).1
    · rw [if_pos ⟨h, h2⟩, if_pos h2]
    · rw [if_neg (fun q => h2 q.2), if_neg h2, h]
  · rw [if_neg (fun q => h q.1), if_pos h]
theorem tall_leaf {p : Tr → Prop} {n : List UInt8} {k : Int} {t : List UInt8} : TAll p (.mk n k t []) := .of (fun y hy => by cases hy)

theorem told_sm_all (x : Tr) : TAll Sm x → x.t.length ≤ 20000 → ∀ nm d f r, nm.length ≤ 20000 → ∀ z ∈ toldT x nm d f r, NdSm z := by
  refine Tr.ind (p := fun x => TAll Sm x → x.t.length ≤ 20000 → ∀ nm d f r, nm.length ≤ 20000 → ∀ z ∈ toldT x nm d f r, NdSm z) (fun x ih hs ht nm d f r hn z hz => ?_) x
  rw [toldT_eq] at hz
  rcases List.mem_cons.1 hz with rfl | hz
  · exact ⟨hn, ht⟩
  · have key : ∀ ks : List Tr, (∀ y ∈ ks, Sm y ∧ ∀ nm d f r, nm.length ≤ 20000 → ∀ z ∈ toldT y nm d f r, NdSm z) → ∀ d p, ∀ z ∈ toldL ks d p, NdSm z := by
      intro ks
      induction ks with
      | nil => intro _ d p z hz; rw [toldL_nil] at hz; cases hz
      | cons y ys ihy =>
        intro h d p z hz
        rw [toldL_cons] at hz
        rcases List.mem_append.1 hz with hz | hz
        · exact (h y (by simp)).2 _ _ _ _ (h y (by simp)).1.1 z hz
        · exact ihy (fun y hy => h y (by simp [hy])) _ _ z hz
    exact key x.ks (fun y hy => ⟨(hs.kid hy).1, ih y hy (hs.kid hy).2 (hs.kid hy).1.2⟩) _ _ z hz
theorem told_sm (x : Tr) (hs : TAll Sm x) (ht : x.t.length ≤ 20000) : ∀ z ∈ toldT x [] 1 true true, NdSm z := told_sm_all x hs ht [] 1 true true (by simp)


end Cv
