/-
  The reference of the table: what is read.
-/
import Derived.Test.YtlbhafbggelgkaaS19b
import Derived.Test.YtlbhafbggelgkaaProg
import Derived.KernelRfl
set_option maxRecDepth 10000
set_option linter.unusedSimpArgs false
set_option linter.unusedVariables false
namespace Cv
open Go Go.Proofs
/-! ## the reference's table: addresses, their rows, who waits -/
abbrev One := Int × Int × Bool
@[reducible] def orow (x : One) : List Value := [.int .i64 x.1, .int .i64 x.2.1, .bool x.2.2]
def ixQ {α : Type} (p : α → Bool) : List α → Int
  | [] => -1
  | x :: xs => if p x then 0 else if ixQ p xs < 0 then -1 else ixQ p xs + 1
theorem ixQ_lb {α : Type} (p : α → Bool) : ∀ (xs : List α), -1 ≤ ixQ p xs ∧ ixQ p xs < xs.length
  | [] => by simp [ixQ]
  | x :: xs => by
    have := ixQ_lb p xs
    unfold ixQ
    simp only [List.length_cons]
    split
    · omega
    · split <;> omega
theorem ixQ_none {α : Type} {p : α → Bool} : ∀ {xs : List α}, (∀ x ∈ xs, p x = false) → ixQ p xs = -1
  | [], _ => rfl
  | x :: xs, h => by
    rw [ixQ, h x (by simp), if_neg (by decide), ixQ_none (fun y hy => h y (by simp [hy])), if_pos (by decide)]
theorem ixQ_at {α : Type} {p : α → Bool} : ∀ {xs : List α} {k : Nat} {x : α}, (∀ y ∈ xs.take k, p y = false) → xs[k]? = some x → p x = true → ixQ p xs = k
  | [], k, x, _, h, _ => by simp at h
  | z :: xs, 0, x, _, h, hp => by
    simp at h; subst h
    rw [ixQ, hp, if_pos rfl]; rfl
  | z :: xs, k + 1, x, ha, h, hp => by
    have h1 : p z = false := ha z (by simp)
    have ih := ixQ_at (xs := xs) (k := k) (fun y hy => ha y (by simp [hy])) (by simpa using h) hp
    rw [ixQ, h1, if_neg (by decide), ih, if_neg (by omega)]
    omega
theorem ixQ_split {α : Type} {p : α → Bool} : ∀ {xs : List α}, 0 ≤ ixQ p xs → ∃ A x B, xs = A ++ x :: B ∧ p x = true ∧ (∀ y ∈ A, p y = false) ∧ xs.eraseIdx (ixQ p xs).toNat = A ++ B
  | [], h => by simp [ixQ] at h
  | z :: xs, h => by
    by_cases hz : p z = true
    · refine ⟨[], z, xs, rfl, hz, (fun y hy => by cases hy), ?_⟩
      rw [ixQ, if_pos hz]; rfl
    · unfold ixQ at h ⊢
      rw [if_neg hz] at h ⊢
      by_cases h0 : ixQ p xs < 0
      · rw [if_pos h0] at h; omega
      · rw [if_neg h0] at h ⊢
        obtain ⟨A, x, B, e, hx, hA, hE⟩ := ixQ_split (p := p) (xs := xs) (by omega)
        refine ⟨z :: A, x, B, by rw [e]; rfl, hx, fun y hy => ?_, ?_⟩
        · rcases List.mem_cons.1 hy with q | q
          · subst q; simpa using hz
          · exact hA y q
        · rw [show (ixQ p xs + 1).toNat = (ixQ p xs).toNat + 1 from by omega, List.eraseIdx_cons_succ, hE]; rfl
theorem ixQ_mem {α : Type} {p : α → Bool} {xs : List α} : 0 ≤ ixQ p xs ↔ ∃ x ∈ xs, p x = true := by
  constructor
  · intro h
    obtain ⟨A, x, B, e, hx, _⟩ := ixQ_split h
    exact ⟨x, by rw [e]; simp, hx⟩
  · rintro ⟨x, hx, hp⟩
    by_cases h : 0 ≤ ixQ p xs
    · exact h
    · exfalso
      induction xs with
      | nil => cases hx
      | cons z xs ih =>
        unfold ixQ at h
        by_cases hz : p z = true
        · rw [if_pos hz] at h; omega
        · rw [if_neg hz] at h
          rcases List.mem_cons.1 hx with q | q
          · subst q; exact hz hp
          · refine ih q ?_
            intro h2
            rw [if_neg (by omega)] at h; omega
def isN (n : Int) (w : Bool) (x : One) : Bool := decide (x.1 = n) && (x.2.2 == w)
def isK (k : Int) (w : Bool) (x : One) : Bool := decide (x.2.1 = k) && (x.2.2 == w)
def findF (L : List One) (n : Int) (w : Bool) : Int := ixQ (isN n w) L
def firstF (L : List One) (k : Int) (w : Bool) : Int := ((L.find? (isK k w)).map (·.1)).getD (-1)
def cntF (L : List One) (k : Int) : Nat := (L.filter (isK k false)).length
theorem find_at {α : Type} {p : α → Bool} : ∀ {xs : List α} {k : Nat} {x : α}, (∀ y ∈ xs.take k, p y = false) → xs[k]? = some x → p x = true → xs.find? p = some x
  | [], k, x, _, h, _ => by simp at h
  | z :: xs, 0, x, _, h, hp => by
    simp at h; subst h
    simp [hp]
  | z :: xs, k + 1, x, ha, h, hp => by
    have h1 : p z = false := ha z (by simp)
    rw [List.find?_cons, h1]
    exact find_at (k := k) (fun y hy => ha y (by simp [hy])) (by simpa using h) hp
theorem firstF_filter (L : List One) (k : Int) (w : Bool) : firstF L k w = (((L.filter (isK k w)).map (·.1)).head?).getD (-1) := by
  unfold firstF
  rw [← List.head?_filter, List.head?_map]
theorem take_all {α : Type} {p : α → Prop} {xs : List α} {k : Nat} {x : α} (h : ∀ y ∈ xs.take k, p y) (hx : xs[k]? = some x) (hp : p x) : ∀ y ∈ xs.take (k + 1), p y := fun y hy => by
  rw [List.take_add_one, hx] at hy
  rcases List.mem_append.1 hy with q | q
  · exact h y q
  · simp at q; subst q; exact hp
/-! who is in both -/
structure Rel (o : Int) (F : Int → Row) (L : List One) (i : Nat) : Prop where
  ok : ∀ k, ROk o k (F k)
  row : ∀ x ∈ L, x.2.1 = rowF o x.1
  kn : ∀ k, (F k).1 = (L.filter (isK k false)).map (·.1)
  wt : ∀ k, (L.filter (isK k true)).map (·.1) = if (F k).2 < 0 then [] else [(F k).2]
  len : L.length ≤ i
theorem rel_0 {o : Int} : Rel o F0 [] 0 := ⟨F0_ok, (fun x h => nomatch h), (fun _ => rfl), (fun _ => rfl), Nat.le_refl _⟩
theorem Rel.up {o : Int} {F : Int → Row} {L : List One} {i : Nat} (h : Rel o F L i) : Rel o F L (i + 1) := ⟨h.ok, h.row, h.kn, h.wt, Nat.le_succ_of_le h.len⟩
theorem Rel.found {o n : Int} {F : Int → Row} {L : List One} {i : Nat} (h : Rel o F L i) : 0 ≤ findF L n false ↔ n ∈ (F (rowF o n)).1 := by
  rw [findF, ixQ_mem, h.kn]
  simp only [List.mem_map, List.mem_filter, isN, isK, Bool.and_eq_true, decide_eq_true_eq, beq_iff_eq]
  constructor
  · rintro ⟨x, hx, h1, h2⟩
    exact ⟨x, ⟨hx, by rw [h.row x hx, h1], h2⟩, h1⟩
  · rintro ⟨x, ⟨hx, _, h2⟩, h1⟩
    exact ⟨x, hx, h1, h2⟩
theorem Rel.cnt {o k : Int} {F : Int → Row} {L : List One} {i : Nat} (h : Rel o F L i) : cntF L k = (F k).1.length := by rw [cntF, h.kn, List.length_map]
theorem Rel.first {o k : Int} {F : Int → Row} {L : List One} {i : Nat} (h : Rel o F L i) : firstF L k false = ((F k).1.head?).getD (-1) := by rw [firstF_filter, h.kn]
theorem Rel.firstW {o k : Int} {F : Int → Row} {L : List One} {i : Nat} (h : Rel o F L i) : firstF L k true = if (F k).2 < 0 then -1 else (F k).2 := by
  rw [firstF_filter, h.wt]; split <;> rfl
theorem Rel.wtNeg {o k : Int} {F : Int → Row} {L : List One} {i : Nat} (h : Rel o F L i) (hk : (F k).2 < 0) : (F k).2 = -1 := by
  rcases (h.ok k).2.2.2 with q | ⟨q, _⟩
  · exact q
  · have := q.1; omega
theorem filter_app1 {p : One → Bool} {A B : List One} {x : One} : (A ++ x :: B).filter p = A.filter p ++ (if p x = true then [x] else []) ++ B.filter p := by
  rw [List.filter_append, List.filter_cons]
  split <;> simp
/-- without the one that waits -/
theorem Rel.unwait {o k w : Int} {F : Int → Row} {L : List One} {i : Nat} (h : Rel o F L i) (hw : 0 ≤ (F k).2) (e : w = (F k).2) :
    0 ≤ findF L w true ∧ Rel o (updR F k ((F k).1, -1)) (L.eraseIdx (findF L w true).toNat) i := by
  have hwk : (F k).2 ∈ (L.filter (isK k true)).map (·.1) := by rw [h.wt, if_neg (by omega)]; simp
  obtain ⟨y, hy, hy1⟩ := List.mem_map.1 hwk
  simp only [List.mem_filter, isK, Bool.and_eq_true, decide_eq_true_eq, beq_iff_eq] at hy
  have hf : 0 ≤ findF L w true := by
    rw [findF, ixQ_mem]
    exact ⟨y, hy.1, by simp [isN, e, hy1, hy.2.2]⟩
  refine ⟨hf, ?_⟩
  obtain ⟨A, x, B, hL, hx, hA, hE⟩ := ixQ_split (p := isN w true) (xs := L) hf
  simp only [isN, Bool.and_eq_true, decide_eq_true_eq, beq_iff_eq] at hx
  have hrk : rowF o w = k := by
    have := h.row y hy.1
    rw [hy1, ← e] at this
    rw [← this]; exact hy.2.1
  have hxk : x.2.1 = k := by rw [h.row x (by rw [hL]; simp), hx.1, hrk]
  rw [show L.eraseIdx (findF L w true).toNat = A ++ B from hE]
  refine ⟨fun j => ?_, fun z hz => h.row z (by rw [hL]; rcases List.mem_append.1 hz with q | q <;> simp [q]), fun j => ?_, fun j => ?_, by have := h.len; rw [hL] at this; simp at this ⊢; omega⟩
  · unfold updR; by_cases ej : j = k
    · subst ej; rw [if_pos rfl]; obtain ⟨a, b, c, _⟩ := h.ok j; exact ⟨a, b, c, .inl rfl⟩
    · rw [if_neg ej]; exact h.ok j
  · have hk := h.kn j
    rw [hL, filter_app1, if_neg (show ¬ isK j false x = true by simp [isK, hx.2])] at hk
    have e1 : (updR F k ((F k).1, -1) j).1 = (F j).1 := by unfold updR; split <;> simp_all
    rw [e1, hk]; simp
  · have hk := h.wt j
    rw [hL, filter_app1] at hk
    unfold updR
    by_cases ej : j = k
    · subst ej
      rw [if_pos (show isK j true x = true by simp [isK, hx.2, hxk]), if_neg (by omega)] at hk
      rw [if_pos rfl, if_pos (by decide : (-1 : Int) < 0)]
      have hl := congrArg List.length hk
      simp at hl
      have h1 : (A.filter (isK j true)).length = 0 := by omega
      have h2 : (B.filter (isK j true)).length = 0 := by omega
      rw [List.filter_append, List.length_eq_zero_iff.1 h1, List.length_eq_zero_iff.1 h2]; rfl
    · rw [if_neg (show ¬ isK j true x = true by simp [isK, hxk]; exact fun q => absurd q.symm ej)] at hk
      rw [if_neg ej, ← hk]; simp
/-- without one that is known -/
theorem Rel.unknow {o n : Int} {F : Int → Row} {L : List One} {i : Nat} (h : Rel o F L i) (hn : n ∈ (F (rowF o n)).1) (hw : (F (rowF o n)).2 < 0 ∨ True) :
    (∀ k, (updR F (rowF o n) ((F (rowF o n)).1.erase n, (F (rowF o n)).2) k).1 = ((L.eraseIdx (findF L n false).toNat).filter (isK k false)).map (·.1)) ∧
    (∀ k, ((L.eraseIdx (findF L n false).toNat).filter (isK k true)).map (·.1) = if (F k).2 < 0 then [] else [(F k).2]) ∧
    (∀ x ∈ L.eraseIdx (findF L n false).toNat, x.2.1 = rowF o x.1) ∧ (L.eraseIdx (findF L n false).toNat).length + 1 = L.length := by
  have hf := h.found.2 hn
  obtain ⟨A, x, B, hL, hx, hA, hE⟩ := ixQ_split (p := isN n false) (xs := L) hf
  simp only [isN, Bool.and_eq_true, decide_eq_true_eq, beq_iff_eq] at hx
  have hxk : x.2.1 = rowF o n := by rw [h.row x (by rw [hL]; simp), hx.1]
  rw [show L.eraseIdx (findF L n false).toNat = A ++ B from hE]
  refine ⟨fun k => ?_, fun k => ?_, fun z hz => h.row z (by rw [hL]; rcases List.mem_append.1 hz with q | q <;> simp [q]), by rw [hL]; simp; omega⟩
  · have hk := h.kn k
    rw [hL, filter_app1] at hk
    unfold updR
    by_cases ek : k = rowF o n
    · subst ek
      rw [if_pos (show isK (rowF o n) false x = true by simp [isK, hx.2, hxk])] at hk
      rw [if_pos rfl]
      simp only
      rw [hk]
      simp only [List.filter_append, List.map_append, List.map_cons, List.map_nil, hx.1]
      have hnA : n ∉ (A.filter (isK (rowF o n) false)).map (·.1) := fun q => by
        obtain ⟨y, hy, hy1⟩ := List.mem_map.1 q
        have h1 := hA y (List.mem_filter.1 hy).1
        have h2 := (List.mem_filter.1 hy).2
        simp only [isK, Bool.and_eq_true, beq_iff_eq] at h2
        simp [isN, hy1, h2.2] at h1
      rw [List.append_assoc, List.erase_append_right _ hnA]
      simp
    · rw [if_neg (show ¬ isK k false x = true by simp [isK, hxk]; exact fun q => absurd q.symm ek)] at hk
      rw [if_neg ek, hk]; simp
  · have hk := h.wt k
    rw [hL, filter_app1, if_neg (show ¬ isK k true x = true by simp [isK, hx.2])] at hk
    rw [← hk]; simp
theorem Rel.pushK {o n : Int} {F : Int → Row} {L : List One} {i : Nat} {r : Row} (hok : ROk o (rowF o n) (r.1 ++ [n], r.2)) (hF : ∀ k, k ≠ rowF o n → ROk o k (F k)) (row : ∀ x ∈ L, x.2.1 = rowF o x.1)
    (kn : ∀ k, (updR F (rowF o n) r k).1 = (L.filter (isK k false)).map (·.1)) (wt : ∀ k, (L.filter (isK k true)).map (·.1) = if (updR F (rowF o n) r k).2 < 0 then [] else [(updR F (rowF o n) r k).2]) (len : L.length + 1 ≤ i) :
    Rel o (updR F (rowF o n) (r.1 ++ [n], r.2)) (L ++ [(n, rowF o n, false)]) i := by
  refine ⟨fun k => ?_, fun x hx => ?_, fun k => ?_, fun k => ?_, by simp; omega⟩
  · unfold updR; by_cases e : k = rowF o n
    · rw [if_pos e, e]; exact hok
    · rw [if_neg e]; exact hF k e
  · rcases List.mem_append.1 hx with q | q
    · exact row x q
    · simp at q; subst q; rfl
  · have h1 := kn k
    rw [List.filter_append, List.map_append, ← h1]
    unfold updR
    by_cases e : k = rowF o n
    · subst e; simp [isK]
    · simp [e, isK, Ne.symm e]
  · have h1 := wt k
    rw [List.filter_append, List.map_append, h1]
    unfold updR
    by_cases e : k = rowF o n
    · subst e; simp [isK]
    · simp [e, isK]
def hRef (o : Int) (L : List One) (n : Int) : List One × Int :=
  if Bad o n then (L, -1)
  else if 0 ≤ findF L n false then
    (if firstF L (rowF o n) false = n ∧ 0 ≤ firstF L (rowF o n) true then
      ((L.eraseIdx (findF L (firstF L (rowF o n) true) true).toNat).eraseIdx (findF (L.eraseIdx (findF L (firstF L (rowF o n) true) true).toNat) n false).toNat ++ [(n, rowF o n, false)], -1)
    else (L.eraseIdx (findF L n false).toNat ++ [(n, rowF o n, false)], -1))
  else if (cntF L (rowF o n) : Int) < 4 then (L ++ [(n, rowF o n, false)], -1)
  else if firstF L (rowF o n) true < 0 then (L ++ [(n, rowF o n, true)], firstF L (rowF o n) false) else (L, -1)
def gRef (o : Int) (L : List One) (n : Int) : List One × Bool :=
  if findF L n false < 0 then (L, false)
  else if 0 ≤ firstF (L.eraseIdx (findF L n false).toNat) (rowF o n) true then
    ((L.eraseIdx (findF L n false).toNat).eraseIdx (findF (L.eraseIdx (findF L n false).toNat) (firstF (L.eraseIdx (findF L n false).toNat) (rowF o n) true) true).toNat ++ [(firstF (L.eraseIdx (findF L n false).toNat) (rowF o n) true, rowF o n, false)], true)
  else (L.eraseIdx (findF L n false).toNat, true)
theorem updR_updR {F : Int → Row} {k : Int} {r r' : Row} : updR (updR F k r) k r' = updR F k r' := by
  funext j; unfold updR; split <;> rfl
theorem updR_at {F : Int → Row} {k : Int} {r : Row} : updR F k r k = r := if_pos rfl
theorem updR_ne {F : Int → Row} {k j : Int} {r : Row} (h : j ≠ k) : updR F k r j = F j := if_neg h
theorem head_ix {n : Int} : ∀ {l : List Int}, n ∈ l → (l.head?.getD (-1) = n ↔ ixF n l = 0)
  | [], h => by cases h
  | x :: l, h => by
    simp only [List.head?_cons, Option.getD_some]
    by_cases e : x = n
    · simp [ixF, e]
    · rw [ixF, if_neg e]
      simp only [e, false_iff]
      split <;> omega
theorem heard_rel {o n : Int} {F : Int → Row} {L : List One} {i : Nat} (h : Rel o F L i) : Rel o (heardF o F n) (hRef o L n).1 (i + 1) ∧ (heardA o F n).2 = decide (0 ≤ (hRef o L n).2) ∧ (heardA o F n).1 = max (hRef o L n).2 0 := by
  unfold heardF heardA hRef
  by_cases hb : Bad o n
  · simp only [if_pos hb]
    exact ⟨h.up, rfl, rfl⟩
  simp only [if_neg hb]
  have hva : VA o n := by unfold Bad at hb; unfold VA; omega
  have hok := hRow_ok (n := n) (h.ok (rowF o n)) hva rfl
  have hfk := h.found (n := n)
  have hf := h.first (k := rowF o n)
  have hw := h.firstW (k := rowF o n)
  have hlen := h.len
  by_cases hn : n ∈ (F (rowF o n)).1
  · have c1 := ixF_of_mem hn
    have hA : hAsk (F (rowF o n)) n = (0, false) := by rw [hAsk, if_pos c1]
    rw [if_pos (hfk.2 hn), hA]
    have hR : hRow (F (rowF o n)) n = ((F (rowF o n)).1.erase n ++ [n], if ixF n (F (rowF o n)).1 = 0 then -1 else (F (rowF o n)).2) := by rw [hRow, if_pos c1, ixF_erase c1]
    rw [hR] at hok ⊢
    have hi := head_ix hn
    rw [← hf] at hi
    by_cases cA : firstF L (rowF o n) false = n ∧ 0 ≤ firstF L (rowF o n) true
    · rw [if_pos cA]
      have hw2 : ¬ (F (rowF o n)).2 < 0 := fun q => by rw [if_pos q] at hw; omega
      rw [if_neg hw2] at hw
      obtain ⟨_, h1⟩ := h.unwait (k := rowF o n) (w := firstF L (rowF o n) true) (by omega) hw
      have hn1 : n ∈ (updR F (rowF o n) ((F (rowF o n)).1, -1) (rowF o n)).1 := by rw [updR_at]; exact hn
      obtain ⟨u1, u2, u3, u4⟩ := h1.unknow hn1 (.inr trivial)
      have hl1 := h1.len
      rw [if_pos (hi.1 cA.1)] at hok ⊢
      refine ⟨?_, rfl, rfl⟩
      have hu : updR F (rowF o n) ((F (rowF o n)).1.erase n ++ [n], -1) = updR (updR F (rowF o n) ((F (rowF o n)).1, -1)) (rowF o n) ((F (rowF o n)).1.erase n ++ [n], -1) := updR_updR.symm
      rw [hu]
      refine Rel.pushK (r := ((F (rowF o n)).1.erase n, -1)) hok (fun k hk => h1.ok k) u3 (fun k => ?_) (fun k => ?_) (by omega)
      · rw [← u1 k, updR_at]
      · rw [u2 k]
        by_cases e : k = rowF o n
        · subst e; rw [updR_at, updR_at]
        · rw [updR_ne (F := updR F (rowF o n) ((F (rowF o n)).1, -1)) e]
    · rw [if_neg cA]
      obtain ⟨u1, u2, u3, u4⟩ := h.unknow hn (.inr trivial)
      have hr2 : (if ixF n (F (rowF o n)).1 = 0 then (-1 : Int) else (F (rowF o n)).2) = (F (rowF o n)).2 := by
        split
        · rename_i h0
          have h1 := hi.2 h0
          by_cases q : (F (rowF o n)).2 < 0
          · rw [h.wtNeg q]
          · rw [if_neg q] at hw
            exact absurd ⟨h1, by omega⟩ cA
        · rfl
      rw [hr2] at hok ⊢
      refine ⟨?_, rfl, rfl⟩
      refine Rel.pushK (r := ((F (rowF o n)).1.erase n, (F (rowF o n)).2)) hok (fun k hk => h.ok k) u3 u1 (fun k => ?_) (by omega)
      rw [u2 k]
      by_cases e : k = rowF o n
      · subst e; rw [updR_at]
      · rw [updR_ne e]
  · have c1 := ixF_of_not hn
    have hnf : ¬ 0 ≤ findF L n false := fun q => hn (hfk.1 q)
    rw [if_neg hnf]
    have hc := h.cnt (k := rowF o n)
    by_cases c2 : ((F (rowF o n)).1.length : Int) < 4
    · rw [if_pos (by rw [hc]; exact c2)]
      have hR : hRow (F (rowF o n)) n = ((F (rowF o n)).1 ++ [n], (F (rowF o n)).2) := by rw [hRow, if_neg c1, if_pos c2]
      have hA : hAsk (F (rowF o n)) n = (0, false) := by rw [hAsk, if_neg c1, if_pos c2]
      rw [hR] at hok ⊢
      rw [hA]
      refine ⟨Rel.pushK (r := F (rowF o n)) hok (fun k hk => h.ok k) h.row (fun k => by rw [updR_self]; exact h.kn k) (fun k => by rw [updR_self]; exact h.wt k) (by omega), rfl, rfl⟩
    · rw [if_neg (by rw [hc]; exact c2)]
      by_cases c3 : (F (rowF o n)).2 < 0
      · have hR : hRow (F (rowF o n)) n = ((F (rowF o n)).1, n) := by rw [hRow, if_neg c1, if_neg c2, if_pos c3]
        have hA : hAsk (F (rowF o n)) n = (gd (F (rowF o n)).1 0, true) := by rw [hAsk, if_neg c1, if_neg c2, if_pos c3]
        rw [if_pos c3] at hw
        rw [if_pos (by omega), hR, hA]
        rw [hR] at hok
        have hg : (F (rowF o n)).1[0]? = some (gd (F (rowF o n)).1 0) := gd_get (by omega)
        have hg0 : 0 ≤ gd (F (rowF o n)).1 0 := (((h.ok _).1 _ (List.mem_of_getElem? hg)).1).1
        have hfg : firstF L (rowF o n) false = gd (F (rowF o n)).1 0 := by rw [hf, List.head?_eq_getElem?, hg]; rfl
        refine ⟨⟨fun k => ?_, fun x hx => ?_, fun k => ?_, fun k => ?_, by simp; omega⟩, ?_, ?_⟩
        · unfold updR; by_cases e : k = rowF o n
          · rw [if_pos e, e]; exact hok
          · rw [if_neg e]; exact h.ok k
        · rcases List.mem_append.1 hx with q | q
          · exact h.row x q
          · simp at q; subst q; rfl
        · rw [List.filter_append, List.map_append, ← h.kn k]
          have : (updR F (rowF o n) ((F (rowF o n)).1, n) k).1 = (F k).1 := by unfold updR; split <;> simp_all
          rw [this]; simp [isK]
        · rw [List.filter_append, List.map_append, h.wt k]
          have hn0 : ¬ n < 0 := by unfold VA at hva; omega
          by_cases e : k = rowF o n
          · subst e; rw [updR_at, if_pos c3, if_neg hn0]; simp [isK]
          · rw [updR_ne e]; simp [isK, Ne.symm e]
        · rw [hfg]; exact (decide_eq_true hg0).symm
        · rw [hfg]; simp only; omega
      · have hR : hRow (F (rowF o n)) n = F (rowF o n) := by rw [hRow, if_neg c1, if_neg c2, if_neg c3]
        have hA : hAsk (F (rowF o n)) n = (0, false) := by rw [hAsk, if_neg c1, if_neg c2, if_neg c3]
        rw [if_neg c3] at hw
        rw [if_neg (by omega), hR, hA, updR_self]
        exact ⟨h.up, rfl, rfl⟩
theorem gone_rel {o n : Int} {F : Int → Row} {L : List One} {i : Nat} (h : Rel o F L i) : Rel o (goneF o F n) (gRef o L n).1 (i + 1) ∧ goneB o F n = (gRef o L n).2 := by
  unfold goneF goneB gRef
  have hfk := h.found (n := n)
  by_cases hn : n ∈ (F (rowF o n)).1
  · have hv := ((h.ok _).1 n hn).1
    have hb : ¬ Bad o n := by unfold Bad; unfold VA at hv; omega
    have c1 := ixF_of_mem hn
    have hf := hfk.2 hn
    rw [if_neg hb, if_neg (by omega : ¬ findF L n false < 0), decide_eq_true hb, decide_eq_true c1]
    obtain ⟨u1, u2, u3, u4⟩ := h.unknow hn (.inr trivial)
    have hlen := h.len
    have hok := gRow_ok (n := n) (h.ok (rowF o n))
    have hfw : firstF (L.eraseIdx (findF L n false).toNat) (rowF o n) true = if (F (rowF o n)).2 < 0 then -1 else (F (rowF o n)).2 := by
      rw [firstF_filter, u2]; split <;> rfl
    by_cases c2 : 0 ≤ (F (rowF o n)).2
    · have hR : gRow (F (rowF o n)) n = ((F (rowF o n)).1.erase n ++ [(F (rowF o n)).2], -1) := by rw [gRow, if_neg (by omega), if_pos c2, ixF_erase c1]
      rw [if_neg (by omega)] at hfw
      rw [if_pos (by omega), hR]
      rw [hR] at hok
      refine ⟨?_, rfl⟩
      have hwk : rowF o (F (rowF o n)).2 = rowF o n := by
        rcases (h.ok (rowF o n)).2.2.2 with q | ⟨_, q, _⟩
        · omega
        · exact q
      have hRel1 : Rel o (updR F (rowF o n) ((F (rowF o n)).1.erase n, (F (rowF o n)).2)) (L.eraseIdx (findF L n false).toNat) i ∨ True := .inr trivial
      -- without the waiting one
      have hwm : (F (rowF o n)).2 ∈ ((L.eraseIdx (findF L n false).toNat).filter (isK (rowF o n) true)).map (·.1) := by rw [u2, if_neg (by omega)]; simp
      obtain ⟨y, hy, hy1⟩ := List.mem_map.1 hwm
      simp only [List.mem_filter, isK, Bool.and_eq_true, decide_eq_true_eq, beq_iff_eq] at hy
      rw [hfw]
      have hf2 : 0 ≤ findF (L.eraseIdx (findF L n false).toNat) (F (rowF o n)).2 true := by
        rw [findF, ixQ_mem]; exact ⟨y, hy.1, by simp [isN, hy1, hy.2.2]⟩
      generalize hL1 : L.eraseIdx (findF L n false).toNat = L1 at *
      obtain ⟨A, x, B, hL, hx, hA, hE⟩ := ixQ_split (p := isN (F (rowF o n)).2 true) (xs := L1) hf2
      simp only [isN, Bool.and_eq_true, decide_eq_true_eq, beq_iff_eq] at hx
      have hxk : x.2.1 = rowF o n := by rw [u3 x (by rw [hL]; simp), hx.1, hwk]
      rw [show L1.eraseIdx (findF L1 (F (rowF o n)).2 true).toNat = A ++ B from hE]
      have hp := Rel.pushK (o := o) (n := (F (rowF o n)).2) (F := F) (L := A ++ B) (i := i + 1) (r := ((F (rowF o n)).1.erase n, -1)) (by rw [hwk]; exact hok) (fun k hk => h.ok k) (fun z hz => u3 z (by rw [hL]; rcases List.mem_append.1 hz with q | q <;> simp [q])) (fun k => by
          have hk := u1 k
          rw [hL, filter_app1, if_neg (show ¬ isK k false x = true by simp [isK, hx.2])] at hk
          rw [hwk]
          have e1 : (updR F (rowF o n) ((F (rowF o n)).1.erase n, -1) k).1 = (updR F (rowF o n) ((F (rowF o n)).1.erase n, (F (rowF o n)).2) k).1 := by unfold updR; split <;> rfl
          rw [e1, hk]; simp) (fun k => by
          have hk := u2 k
          rw [hL, filter_app1] at hk
          rw [hwk]
          by_cases ek : k = rowF o n
          · subst ek
            rw [if_pos (show isK (rowF o n) true x = true by simp [isK, hx.2, hxk]), if_neg (by omega)] at hk
            have hl := congrArg List.length hk
            simp at hl
            have h1 : (A.filter (isK (rowF o n) true)).length = 0 := by omega
            have h2 : (B.filter (isK (rowF o n) true)).length = 0 := by omega
            rw [List.filter_append, List.length_eq_zero_iff.1 h1, List.length_eq_zero_iff.1 h2, updR_at]; rfl
          · rw [if_neg (show ¬ isK k true x = true by simp [isK, hxk]; exact fun q => absurd q.symm ek)] at hk
            rw [updR_ne ek, ← hk]; simp) (by rw [hL] at u4; simp at u4 ⊢; omega)
      rw [hwk] at hp
      exact hp
    · have hR : gRow (F (rowF o n)) n = ((F (rowF o n)).1.erase n, (F (rowF o n)).2) := by rw [gRow, if_neg (by omega), if_neg c2, ixF_erase c1]
      rw [if_pos (by omega)] at hfw
      rw [if_neg (by omega), hR]
      rw [hR] at hok
      refine ⟨⟨fun k => ?_, u3, u1, fun k => ?_, by simp only; omega⟩, rfl⟩
      · by_cases e : k = rowF o n
        · subst e; rw [updR_at]; exact hok
        · rw [updR_ne e]; exact h.ok k
      · rw [u2 k]
        by_cases e : k = rowF o n
        · subst e; rw [updR_at]
        · rw [updR_ne e]
  · have hnf : findF L n false < 0 := by
      by_cases q : findF L n false < 0
      · exact q
      · exact absurd (hfk.1 (by omega)) hn
    rw [if_pos hnf]
    have c1 := ixF_of_not hn
    rw [decide_eq_false c1, Bool.and_false]
    refine ⟨?_, rfl⟩
    split
    · exact h.up
    · have hR : gRow (F (rowF o n)) n = F (rowF o n) := by rw [gRow, if_pos (by omega)]
      rw [hR, updR_self]; exact h.up
/-! ## bits in common, one by one -/
def btF (c : UInt8) (r : Nat) : Nat := c.toNat / 2 ^ (7 - r) % 2
def bitF (s : List UInt8) (i : Nat) : Int := (btF (gd s (i / 8)) (i % 8) : Int)
theorem bt_xor (a b : UInt8) (r : Nat) : btF (a ^^^ b) r = (btF a r + btF b r) % 2 := by
  unfold btF
  have h : ∀ n k : Nat, n / 2 ^ k % 2 = (n.testBit k).toNat := fun n k => by rw [Nat.toNat_testBit]
  rw [h, h, h, UInt8.toNat_xor, Nat.testBit_xor]
  cases a.toNat.testBit (7 - r) <;> cases b.toNat.testBit (7 - r) <;> rfl
theorem bt_tabB : ((List.range 256).all fun n => (List.range 8).all fun r => !((List.range r).all fun s => n / 2 ^ (7 - s) % 2 == 0) || !(n / 2 ^ (7 - r) % 2 == 1) || (!(n == 0) && (8 - (gd tab8 n).toNat == r))) = true := by decide +kernel
theorem bt_tab (n : Nat) (hn : n < 256) (r : Nat) (hr : r < 8) (h : ∀ s < r, n / 2 ^ (7 - s) % 2 = 0) (h1 : n / 2 ^ (7 - r) % 2 = 1) : n ≠ 0 ∧ 8 - (gd tab8 n).toNat = r := by
  have h2 := List.all_eq_true.1 (List.all_eq_true.1 bt_tabB n (List.mem_range.2 hn)) r (List.mem_range.2 hr)
  have h3 : ((List.range r).all fun s => n / 2 ^ (7 - s) % 2 == 0) = true := List.all_eq_true.2 (fun s hs => by simpa using h s (List.mem_range.1 hs))
  rw [h3, h1] at h2
  simpa using h2
theorem bt_zero : ∀ n < 256, (∀ s < 8, n / 2 ^ (7 - s) % 2 = 0) → n = 0 := by decide +kernel
theorem bt_same {a b : UInt8} (h : ∀ r < 8, btF a r = btF b r) : (a ^^^ b).toNat = 0 := by
  refine bt_zero _ (UInt8.toNat_lt _) (fun s hs => ?_)
  have := bt_xor a b s
  rw [h s hs] at this
  unfold btF at this
  omega
theorem bt_first {a b : UInt8} {r : Nat} (hr : r < 8) (h : ∀ s < r, btF a s = btF b s) (h1 : btF a r ≠ btF b r) : ¬ ((a ^^^ b).toNat : Int) = 0 ∧ 8 - l8 (a ^^^ b) = (r : Int) := by
  have hb : ∀ c r, btF c r < 2 := fun c r => Nat.mod_lt _ (by decide)
  have := bt_tab (a ^^^ b).toNat (UInt8.toNat_lt _) r hr (fun s hs => by
    have := bt_xor a b s
    rw [h s hs] at this
    unfold btF at this
    omega) (by
    have := bt_xor a b r
    have b1 := hb a r
    have b2 := hb b r
    have : btF (a ^^^ b) r = 1 := by omega
    exact this)
  have hl : (gd tab8 (a ^^^ b).toNat).toNat ≤ 8 := by
    have := l8_le (a ^^^ b)
    rw [← l8_eq] at this
    omega
  rw [← l8_eq]
  omega
theorem shF_go {x y : List UInt8} (hx : x.length = 32) (hy : y.length = 32) : ∀ q, q ≤ 32 → (∀ j < 8 * q, bitF x j = bitF y j) → sharedF x y = shF ((xorL x y).drop q) q
  | 0, _, _ => by rw [sharedF_0]
  | q + 1, hq, h => by
    rw [shF_go hx hy q (by omega) (fun j hj => h j (by omega))]
    have hl : (xorL x y).length = 32 := by rw [xorL_len]; exact hx
    rw [shF_s (by omega)]
    have hz : gd (xorL x y) q = gd x q ^^^ gd y q := by
      have := xorTo_gd hx hy 32 (Nat.le_refl _) q (by omega)
      rwa [if_pos (by omega), xorTo_32] at this
    have h0 : (gd x q ^^^ gd y q).toNat = 0 := bt_same (fun r hr => by
      have := h (8 * q + r) (by omega)
      unfold bitF at this
      rw [show (8 * q + r) / 8 = q by omega, show (8 * q + r) % 8 = r by omega] at this
      omega)
    rw [hz, h0, if_neg (by simp)]
theorem shared_at {x y : List UInt8} {i : Nat} (hx : x.length = 32) (hy : y.length = 32) (hi : i < 256) (h : ∀ j < i, bitF x j = bitF y j) (h1 : bitF x i ≠ bitF y i) : sharedF x y = (i : Int) := by
  rw [shF_go hx hy (i / 8) (by omega) (fun j hj => h j (by omega))]
  have hl : (xorL x y).length = 32 := by rw [xorL_len]; exact hx
  rw [shF_s (by omega)]
  have hz : gd (xorL x y) (i / 8) = gd x (i / 8) ^^^ gd y (i / 8) := by
    have := xorTo_gd hx hy 32 (Nat.le_refl _) (i / 8) (by omega)
    rwa [if_pos (by omega), xorTo_32] at this
  obtain ⟨g1, g2⟩ := bt_first (a := gd x (i / 8)) (b := gd y (i / 8)) (r := i % 8) (by omega) (fun s hs => by
    have := h (8 * (i / 8) + s) (by omega)
    unfold bitF at this
    rw [show (8 * (i / 8) + s) / 8 = i / 8 by omega, show (8 * (i / 8) + s) % 8 = s by omega] at this
    omega) (fun e => h1 (by unfold bitF; rw [e]))
  rw [hz, if_pos g1, g2]
  omega
theorem shared_end {x y : List UInt8} (hx : x.length = 32) (hy : y.length = 32) (h : ∀ j < 256, bitF x j = bitF y j) : sharedF x y = 256 := by
  rw [shF_go hx hy 32 (by omega) h, shF_e (by rw [xorL_len]; exact hx)]
theorem bit_val {s : List UInt8} {i : Nat} (c : Int) (hc : c = ((gd s (i / 8)).toNat / 2 ^ (7 - i % 8) : Nat)) : c.tmod 2 = bitF s i := by
  rw [hc]; unfold bitF btF
  rw [Int.tmod_eq_emod_of_nonneg (Int.natCast_nonneg _)]
  omega
theorem rel_all {o : Int} {F : Int → Row} {L : List One} {i : Nat} (h : Rel o F L i) : ((List.range 64).map (fun j : Nat => (j : Int))).filter (fun n => decide (0 ≤ findF L n false)) = allF o F := by
  unfold allF
  refine List.filter_congr (fun n _ => ?_)
  rw [decide_eq_decide]; exact h.found
theorem take_snoc {α : Type} {l : List α} {k : Nat} {x : α} (h : l[k]? = some x) : l.take (k + 1) = l.take k ++ [x] := by rw [List.take_add_one, h]; rfl
theorem one_orow {l : List One} {p q : Nat} : ∀ u ∈ (((l.map orow).drop p).take q).flatten, u.oneCell' = true := fun u hu => by
  obtain ⟨r, hr, hu⟩ := List.mem_flatten.1 hu
  obtain ⟨x, _, rfl⟩ := List.mem_map.1 (List.mem_of_mem_drop (List.mem_of_mem_take hr))
  simp [orow] at hu
  rcases hu with rfl | rfl | rfl <;> rfl
theorem one_orow1 {l : List One} : ∀ u ∈ (l.map orow).flatten, u.oneCell' = true := fun u hu => by
  obtain ⟨r, hr, hu⟩ := List.mem_flatten.1 hu
  obtain ⟨x, _, rfl⟩ := List.mem_map.1 hr
  simp [orow] at hu
  rcases hu with rfl | rfl | rfl <;> rfl
theorem wo_rows {l : List One} {i : Nat} : [] ++ ((l.map orow).drop 0).take (i - 0) ++ ((l.map orow).drop (i + 1)).take (l.length - (i + 1)) = (l.eraseIdx i).map orow := by
  rw [List.take_of_length_le (l := (l.map orow).drop (i + 1)) (by simp)]
  simp [List.eraseIdx_eq_take_drop_succ, List.map_take, List.map_drop]
theorem first_found {l : List One} {k : Int} {w : Bool} (h : 0 ≤ firstF l k w) : 0 ≤ findF l (firstF l k w) w := by
  cases e : l.find? (isK k w) with
  | none => unfold firstF at h; rw [e] at h; simp at h
  | some x =>
    have hv : firstF l k w = x.1 := by unfold firstF; rw [e]; rfl
    rw [hv, findF, ixQ_mem]
    refine ⟨x, List.mem_of_find?_eq_some e, ?_⟩
    have := List.find?_some e
    simp only [isK, Bool.and_eq_true] at this
    simp only [isN, Bool.and_eq_true, decide_eq_true_eq, true_and]
    exact this.2
theorem found_erase {l : List One} {n m : Int} (h : 0 ≤ findF l n false) (hm : 0 ≤ findF l m true) : 0 ≤ findF (l.eraseIdx (findF l m true).toNat) n false := by
  obtain ⟨y, hy, hp⟩ := ixQ_mem.1 h
  obtain ⟨A, x, B, e, hx, _, hE⟩ := ixQ_split hm
  rw [show l.eraseIdx (findF l m true).toNat = A ++ B from hE, findF, ixQ_mem]
  refine ⟨y, ?_, hp⟩
  rw [e] at hy
  simp only [isN, Bool.and_eq_true, beq_iff_eq] at hx hp
  simp only [List.mem_append, List.mem_cons] at hy ⊢
  rcases hy with q | q | q
  · exact .inl q
  · subst q; rw [hp.2] at hx; exact absurd hx.2 (by decide)
  · exact .inr q
theorem nat_of {i : Int} (h : 0 ≤ i) : ∃ k : Nat, i = (k : Int) := ⟨i.toNat, (Int.toNat_of_nonneg h).symm⟩
theorem find_lt {l : List One} {n : Int} {w : Bool} {i : Nat} (h : findF l n w = (i : Int)) : i < l.length := by
  have := (ixQ_lb (isN n w) l).2
  rw [show ixQ (isN n w) l = (i : Int) from h] at this
  omega
theorem first_push {l : List One} {n k : Int} : firstF (l ++ [(n, k, true)]) k false = firstF l k false := by
  unfold firstF
  rw [List.find?_append]
  have : [(n, k, true)].find? (isK k false) = none := by simp [isK]
  rw [this, Option.or_none]
theorem allF_inR {o : Int} {F : Int → Row} (h : ∀ k, ROk o k (F k)) : InR (allF o F) := fun x hx => by
  have := ((h _).1 x ((allF_mem h).1 hx)).1
  unfold VA at this; omega
def kcnt (o : Int) (F : Int → Row) (j : Nat) : Nat := ((List.range j).filter (fun i : Nat => knowsB o F ((i : Int) - 2))).length
theorem kcnt_s {o : Int} {F : Int → Row} {j : Nat} : kcnt o F (j + 1) = kcnt o F j + if knowsB o F ((j : Int) - 2) = true then 1 else 0 := by
  unfold kcnt
  rw [List.range_succ, List.filter_append, List.length_append]
  cases h : knowsB o F ((j : Int) - 2) <;> simp [h]
theorem kcnt_le {o : Int} {F : Int → Row} {j : Nat} : kcnt o F j ≤ j := by
  have := List.length_filter_le (fun i : Nat => knowsB o F ((i : Int) - 2)) (List.range j)
  simpa [kcnt] using this
theorem kcnt_end {o : Int} {F : Int → Row} (h : ∀ k, ROk o k (F k)) : kcnt o F 72 = (allF o F).length := by
  have e : kcnt o F 72 = (((List.range 72).filter (fun i : Nat => knowsB o F ((i : Int) - 2))).map (fun i : Nat => (i : Int) - 2)).length := by rw [List.length_map]; rfl
  rw [e]
  refine len_of_mem ?_ allF_nodup (fun x => ?_)
  · have hn : ((List.range 72).filter (fun i : Nat => knowsB o F ((i : Int) - 2))).Nodup := List.nodup_range.filter _
    rw [List.nodup_iff_pairwise_ne, List.pairwise_map] 
    exact hn.imp (fun {a b} hab hq => hab (by omega))
  · simp only [List.mem_map, List.mem_filter, List.mem_range, knows_all h, decide_eq_true_eq]
    constructor
    · rintro ⟨i, ⟨_, q⟩, rfl⟩; exact q
    · intro q
      have := allF_inR h x q
      exact ⟨(x + 2).toNat, ⟨by omega, by rwa [show ((x + 2).toNat : Int) - 2 = x by omega]⟩, by omega⟩
theorem fo47_0 : Fo Try.prog 47 0 0 := fun a w => by kernel_rfl
theorem fo47_1 : Fo Try.prog 47 1 1 := fun a w => by kernel_rfl
theorem sc45 : Sc Try.prog 45 := fun w => ⟨by kernel_rfl, by kernel_rfl⟩
theorem sz96 : Sz Try.prog 96 3 := fun w => by kernel_rfl
theorem ag96 : Ag Try.prog 96 3 := fun w => ⟨by kernel_rfl, by kernel_rfl⟩
theorem zv96 : ∀ w, (zeroValue 96).run Try.prog w = .ok (Value.agg #[Value.int .i64 0, Value.int .i64 0, Value.bool false]) w := fun w => by kernel_rfl
theorem ze96 : Ze Try.prog 96 [Value.int .i64 0, Value.int .i64 0, Value.bool false] := ⟨_, rfl, zv96⟩
theorem fo96_0 : Fo Try.prog 96 0 0 := fun a w => by kernel_rfl
theorem fo96_2 : Fo Try.prog 96 2 2 := fun a w => by kernel_rfl
theorem sc4 : Sc Try.prog 4 := fun w => ⟨by kernel_rfl, by kernel_rfl⟩
theorem fo96_1 : Fo Try.prog 96 1 1 := fun a w => by kernel_rfl
set_option maxHeartbeats 400000 in
theorem bit_spec {s : List UInt8} {i : Nat} (hs : s.length = 32) (hi : i < 256) : Spec Try.prog 96 [S s, .int .i64 (i : Int)] [] [] (fun v D' M' => v = .int .i64 (bitF s i) ∧ D' = [] ∧ M' = []) := by
  refine Spec.intro (n := 23) Try.func96 rfl rfl (by decide) (Nat.le_of_ble_eq_true rfl) rfl (fun _ => qA) (fun _ => qA) ?_
  intro σ D M
  have hby := UInt8.toNat_lt (gd s (i / 8))
  refine T.seq ?_
  refine T.region ?_
  refine L.assign rfl rfl ?_
  refine L.nil ?_
  refine T.thenN ?_
  refine T.seq ?_
  refine T.region ?_
  refine L.move rfl rfl ?_
  refine L.move rfl rfl ?_
  refine L.quoN rfl rfl rfl qI ?_
  refine L.indexS (i := i / 8) rfl Try.underlying9 rfl rfl (by first | rfl | omega | (simp; done)) (gd_get (by omega)) ?_
  refine L.convN rfl Try.underlying5 Try.underlying3 rfl qI ?_
  refine L.assign rfl rfl ?_
  refine L.nil ?_
  refine T.thenN ?_
  refine T.seq ?_
  refine T.seq ?_
  refine T.region ?_
  refine L.assign rfl rfl ?_
  refine L.nil ?_
  refine T.thenN ?_
  refine T.block ?_
  refine T.loop (fun K' D' M' μ => ∃ (j : Nat) (c : Int), (j ≤ 7 - i % 8 ∧ c = ((gd s (i / 8)).toNat / 2 ^ j : Nat)) ∧ K' = [(6, .int .i64 j), (5, .int .i64 c)] ∧ D' = [] ∧ M' = [] ∧ μ = 7 - i % 8 - j) (.cons (t := 1) rfl <| SubK.nil _) (⟨0, _, ⟨by omega, by simp⟩, rfl, rfl, rfl, rfl⟩) (.cons (t := 6) rfl <| .cons (t := 5) rfl <| SubK.nil _) qD qS ?_
  rintro K1 D1 M1 m1 ⟨j, c, ⟨hj, hc⟩, rfl, rfl, rfl, rfl⟩
  refine T.norm3 qA qA qA ?_
  have hcn : 0 ≤ c := by rw [hc]; exact Int.natCast_nonneg _
  have hcb : c ≤ 255 := by have := Nat.div_le_self (gd s (i / 8)).toNat (2 ^ j); omega
  refine T.seq ?_
  refine T.seq ?_
  refine T.region ?_
  refine L.move rfl rfl ?_
  refine L.move rfl rfl ?_
  refine L.remN rfl rfl rfl qI ?_
  refine L.subN rfl rfl rfl (by omega) ?_
  refine L.ltI rfl rfl rfl ?_
  refine L.nil ?_
  refine T.thenN ?_
  refine T.cond rfl (fun h16 => ?_) (fun h16 => ?_)
  · try simp only [decide_eq_true_eq, decide_eq_false_iff_not, Bool.not_eq_true', Bool.not_eq_false', Bool.and_eq_true, Bool.or_eq_true] at h16
    refine T.skip ?_
    refine T.thenN ?_
    refine T.seq ?_
    refine T.block ?_
    refine T.region ?_
    refine L.move rfl rfl ?_
    refine L.quoN rfl rfl rfl qI ?_
    refine L.assign rfl rfl ?_
    refine L.nil ?_
    refine T.blkN ?_
    refine T.thenN ?_
    refine T.region ?_
    refine L.move rfl rfl ?_
    refine L.addN rfl rfl rfl (by omega) ?_
    refine L.assign rfl rfl ?_
    refine L.nil ?_
    refine T.thenN ?_
    exact T.back ⟨j + 1, c / 2, ⟨by omega, by rw [hc, Nat.pow_succ, ← Nat.div_div_eq_div_mul]; rfl⟩, rfl, rfl, rfl, rfl⟩ qI (.cons (t := 6) rfl <| .cons (t := 5) rfl <| SubK.nil _) (.cons (t := 1) rfl <| SubK.nil _) qD qD qF
  · try simp only [decide_eq_true_eq, decide_eq_false_iff_not, Bool.not_eq_true', Bool.not_eq_false', Bool.and_eq_true, Bool.or_eq_true] at h16
    obtain rfl : j = 7 - i % 8 := by omega
    have hc7 := hc
    refine T.exit ?_
    refine T.thenX ?_
    refine T.thenX ?_
    refine T.blkX ?_
    refine T.thenN ?_
    refine T.seq ?_
    refine T.region ?_
    refine L.move rfl rfl ?_
    refine L.remI rfl rfl rfl (by decide) ?_
    rw [bit_val _ hc7]
    refine L.assign rfl rfl ?_
    refine L.nil ?_
    refine T.thenN ?_
    refine T.ret ?_
    exact T.ret1 rfl rfl ⟨rfl, rfl, rfl⟩ qD qF
set_option maxHeartbeats 400000 in
theorem rsh_spec {x y : List UInt8} (hx : x.length = 32) (hy : y.length = 32) : Spec Try.prog 82 [S x, S y] [] [] (fun v D' M' => v = .int .i64 (sharedF x y) ∧ D' = [] ∧ M' = []) := by
  refine Spec.intro (n := 18) Try.func82 rfl rfl (by decide) (Nat.le_of_ble_eq_true rfl) rfl (fun _ => qA) (fun _ => qA) ?_
  intro σ D M
  refine T.seq ?_
  refine T.region ?_
  refine L.assign rfl rfl ?_
  refine L.nil ?_
  refine T.thenN ?_
  refine T.seq ?_
  refine T.seq ?_
  refine T.region ?_
  refine L.assign rfl rfl ?_
  refine L.nil ?_
  refine T.thenN ?_
  refine T.block ?_
  refine T.loop (fun K' D' M' μ => ∃ (i : Nat), (i ≤ 256 ∧ ∀ j < i, bitF x j = bitF y j) ∧ K' = [(5, .int .i64 i)] ∧ D' = [] ∧ M' = [] ∧ μ = 256 - i) (.cons (t := 0) rfl <| .cons (t := 1) rfl <| SubK.nil _) (⟨0, ⟨by omega, fun j hj => absurd hj (Nat.not_lt_zero _)⟩, rfl, rfl, rfl, rfl⟩) (.cons (t := 5) rfl <| SubK.nil _) qD qS ?_
  rintro K1 D1 M1 m1 ⟨i, ⟨hi, hb⟩, rfl, rfl, rfl, rfl⟩
  refine T.norm3 qA qA qA ?_
  refine T.seq ?_
  refine T.seq ?_
  refine T.region ?_
  refine L.move rfl rfl ?_
  refine L.ltI rfl rfl rfl ?_
  refine L.nil ?_
  refine T.thenN ?_
  refine T.cond rfl (fun h7 => ?_) (fun h7 => ?_)
  · try simp only [decide_eq_true_eq, decide_eq_false_iff_not, Bool.not_eq_true', Bool.not_eq_false', Bool.and_eq_true, Bool.or_eq_true] at h7
    refine T.skip ?_
    refine T.thenN ?_
    refine T.seq ?_
    refine T.block ?_
    refine T.seq ?_
    refine T.region ?_
    refine L.move rfl rfl ?_
    refine L.move rfl rfl ?_
    refine L.callF rfl (evs.cons rfl <| evs.cons rfl <| evs.nil) qD qS (bit_spec (s := x) (i := i) hx (by omega)) (by rintro u D1 M1 ⟨rfl, rfl, rfl⟩; exact ⟨rfl, _, qA, qF⟩) ?_
    refine L.move rfl rfl ?_
    refine L.move rfl rfl ?_
    refine L.callF rfl (evs.cons rfl <| evs.cons rfl <| evs.nil) qD qS (bit_spec (s := y) (i := i) hy (by omega)) (by rintro u D1 M1 ⟨rfl, rfl, rfl⟩; exact ⟨rfl, _, qA, qF⟩) ?_
    refine L.neI rfl rfl rfl ?_
    refine L.nil ?_
    refine T.thenN ?_
    refine T.cond rfl (fun h16 => ?_) (fun h16 => ?_)
    · try simp only [decide_eq_true_eq, decide_eq_false_iff_not, Bool.not_eq_true', Bool.not_eq_false', Bool.and_eq_true, Bool.or_eq_true] at h16
      refine T.seq ?_
      refine T.region ?_
      refine L.move rfl rfl ?_
      refine L.assign rfl rfl ?_
      refine L.nil ?_
      refine T.thenN ?_
      refine T.ret ?_
      refine T.blkR ?_
      refine T.thenR ?_
      refine T.thenR ?_
      refine T.blkR ?_
      refine T.thenR ?_
      exact T.ret1 rfl rfl ⟨by rw [shared_at hx hy (by omega) hb h16], rfl, rfl⟩ qD qF
    · try simp only [decide_eq_true_eq, decide_eq_false_iff_not, Bool.not_eq_true', Bool.not_eq_false', Bool.and_eq_true, Bool.or_eq_true] at h16
      refine T.skip ?_
      refine T.blkN ?_
      refine T.thenN ?_
      refine T.region ?_
      refine L.move rfl rfl ?_
      refine L.addN rfl rfl rfl (by omega) ?_
      refine L.assign rfl rfl ?_
      refine L.nil ?_
      refine T.thenN ?_
      exact T.back ⟨i + 1, ⟨by omega, fun j hj => by rcases Nat.lt_succ_iff_lt_or_eq.1 hj with q | q; exact hb j q; subst q; simpa using h16⟩, rfl, rfl, rfl, rfl⟩ qI (.cons (t := 5) rfl <| SubK.nil _) (.cons (t := 0) rfl <| .cons (t := 1) rfl <| SubK.nil _) qD qD qF
  · try simp only [decide_eq_true_eq, decide_eq_false_iff_not, Bool.not_eq_true', Bool.not_eq_false', Bool.and_eq_true, Bool.or_eq_true] at h7
    obtain rfl : i = 256 := by omega
    refine T.exit ?_
    refine T.thenX ?_
    refine T.thenX ?_
    refine T.blkX ?_
    refine T.thenN ?_
    refine T.seq ?_
    refine T.region ?_
    refine L.assign rfl rfl ?_
    refine L.nil ?_
    refine T.thenN ?_
    refine T.ret ?_
    exact T.ret1 rfl rfl ⟨by rw [shared_end hx hy hb], rfl, rfl⟩ qD qF
set_option maxHeartbeats 400000 in
theorem rrow_spec {a : Option Addr} {len cap : Nat} {o : Int} {n : Int}  : Spec Try.prog 55 [.agg [.int .i64 o, .slice a len cap].toArray, .int .i64 n] [] [] (fun v D' M' => v = .int .i64 (rowF o n) ∧ D' = [] ∧ M' = []) := by
  refine Spec.intro (n := 11) Try.func55 rfl rfl (by decide) (Nat.le_of_ble_eq_true rfl) rfl (fun _ => qA) (fun _ => qA) ?_
  intro σ D M
  refine T.seq ?_
  refine T.region ?_
  refine L.box rfl rfl rfl (fun b2 => ?_)
  refine L.assign rfl rfl ?_
  refine L.nil ?_
  refine T.thenN ?_
  refine T.seq ?_
  refine T.region ?_
  first | refine L.field0 rfl fo47_0 rfl ?_ | refine L.field rfl fo47_0 rfl ?_
  refine L.load rfl sc3 rfl qC ?_
  refine L.callF rfl (evs.cons rfl <| evs.nil) qD qS (rid_spec) (by rintro u D1 M1 ⟨rfl, rfl, rfl⟩; exact ⟨rfl, _, qA, qF⟩) ?_
  refine L.move rfl rfl ?_
  refine L.callF rfl (evs.cons rfl <| evs.nil) qD qS (rid_spec) (by rintro u D1 M1 ⟨rfl, rfl, rfl⟩; exact ⟨rfl, _, qA, qF⟩) ?_
  refine L.callF rfl (evs.cons rfl <| evs.cons rfl <| evs.nil) qD qS (rsh_spec (idF_len _) (idF_len _)) (by rintro u D1 M1 ⟨rfl, rfl, rfl⟩; exact ⟨rfl, _, qA, qF⟩) ?_
  rw [show sharedF (idF o) (idF n) = rowF o n from rfl]
  refine L.assign rfl rfl ?_
  refine L.nil ?_
  refine T.thenN ?_
  refine T.ret ?_
  exact T.ret1 rfl rfl ⟨rfl, rfl, rfl⟩ qD qF
set_option maxHeartbeats 400000 in
theorem find_spec {a : Option Addr} {len cap : Nat} {o : Int} {tb : List One} {n : Int} {w : Bool} (hb : tb.length ≤ 100000) : Spec Try.prog 44 [.agg [.int .i64 o, .slice a len cap].toArray, .int .i64 n, .bool w] [rsl 3 a len cap ((tb).map orow)] [] (fun v D' M' => v = .int .i64 (findF tb n w) ∧ D' = [] ∧ M' = []) := by
  refine Spec.intro (n := 29) Try.func44 rfl rfl (by decide) (Nat.le_of_ble_eq_true rfl) rfl (fun _ => qA) (fun _ => qA) ?_
  intro σ D M
  refine T.rslLen2 (rows := tb.map orow) qM (fun hl hcp => ?_)
  rw [List.length_map] at hl
  subst hl
  refine T.seq ?_
  refine T.region ?_
  refine L.box rfl rfl rfl (fun b3 => ?_)
  refine L.assign rfl rfl ?_
  refine L.nil ?_
  refine T.thenN ?_
  refine T.seq ?_
  refine T.seq ?_
  refine T.region ?_
  first | refine L.field0 rfl fo47_1 rfl ?_ | refine L.field rfl fo47_1 rfl ?_
  refine L.load rfl sc45 rfl qC ?_
  refine L.lenSl rfl Try.underlying45 rfl ?_
  refine L.move rfl rfl ?_
  refine L.nil ?_
  refine T.thenN ?_
  refine T.block ?_
  refine T.loop (fun K' D' M' μ => ∃ (k : Nat), (k ≤ tb.length ∧ ∀ y ∈ tb.take k, isN n w y = false) ∧ K' = [(12, .int .i64 k)] ∧ D' = [] ∧ M' = [] ∧ μ = tb.length - k) (.cons (t := 1) rfl <| .cons (t := 2) rfl <| .cons (t := 10) rfl <| .cons (t := 11) rfl <| SubK.nil _) (⟨0, ⟨by omega, fun y hy => by simp at hy⟩, rfl, rfl, rfl, rfl⟩) (.cons (t := 12) rfl <| SubK.nil _) qD qS ?_
  rintro K1 D1 M1 m1 ⟨k, ⟨hk, hall⟩, rfl, rfl, rfl, rfl⟩
  refine T.norm3 qA qA qA ?_
  refine T.seq ?_
  refine T.region ?_
  refine L.ltI rfl rfl rfl ?_
  refine L.nil ?_
  refine T.thenN ?_
  refine T.seq ?_
  refine T.cond rfl (fun h13 => ?_) (fun h13 => ?_)
  · try simp only [decide_eq_true_eq, decide_eq_false_iff_not, Bool.not_eq_true', Bool.not_eq_false', Bool.and_eq_true, Bool.or_eq_true] at h13
    refine T.skip ?_
    refine T.thenN ?_
    refine T.seq ?_
    refine T.block ?_
    refine T.seq ?_
    refine T.region ?_
    have hgk : tb[k]? = some (gd tb k) := gd_get (by omega)
    refine L.move rfl rfl ?_
    refine L.idx (i := k) rfl Try.underlying45 sz96 rfl rfl qM (by first | rfl | omega | (simp; done)) qG (fun b15 o15 => ?_)
    refine L.loadA rfl ag96 rfl qN ?_
    refine L.alloc rfl ze96 (fun b8 => ?_)
    refine L.assign rfl rfl ?_
    refine L.storeA ag96 rfl rfl qL qO qU qW ?_
    refine L.nil ?_
    obtain ⟨y, hy⟩ : ∃ y, y = gd tb k := ⟨_, rfl⟩
    rw [← hy] at hgk ⊢
    refine T.thenN ?_
    refine T.seq ?_
    refine T.cutC (fun K' D' M' => ∃ (w0 : Bool), (w0 = isN n w y) ∧ K' = [(26, .bool w0)] ∧ D' = [] ∧ M' = [cl b8 96 (orow y)]) (M0 := [cl b8 96 (orow y)]) (.cons (t := 1) rfl <| .cons (t := 2) rfl <| .cons (t := 7) rfl <| .cons (t := 10) rfl <| .cons (t := 11) rfl <| .cons (t := 12) rfl <| SubK.nil _) qS ?_ ?_
    · skip
      refine T.region ?_
      first | refine L.field0 rfl fo96_0 rfl ?_ | refine L.field rfl fo96_0 rfl ?_
      refine L.load rfl sc3 rfl qC ?_
      refine L.move rfl rfl ?_
      refine L.eqI rfl rfl rfl ?_
      refine L.move rfl rfl ?_
      refine L.part (t := 21) rfl (fun h1 => ?_) (fun h1 => ?_)
      · try simp only [decide_eq_true_eq, decide_eq_false_iff_not, Bool.not_eq_true', Bool.not_eq_false', Bool.and_eq_true, Bool.or_eq_true] at h1
        refine L.guardT (dj := 21) rfl rfl rfl ?_
        first | refine L.field0 rfl fo96_2 rfl ?_ | refine L.field rfl fo96_2 rfl ?_
        refine L.guardT (dj := 21) rfl rfl rfl ?_
        refine L.load rfl sc4 rfl qC ?_
        refine L.guardT (dj := 21) rfl rfl rfl ?_
        refine L.move rfl rfl ?_
        refine L.guardT (dj := 21) rfl rfl rfl ?_
        refine L.eqlB Try.underlying4 rfl rfl rfl ?_
        refine L.pickT rfl rfl rfl ?_
        refine L.nil ?_
        refine T.thenN ?_
        exact T.toJoin ⟨_, (by rcases y with ⟨y1, y2, y3⟩; simp_all [isN, isK]), rfl, rfl, rfl⟩ (.cons (t := 26) rfl <| SubK.nil _) (.cons (t := 1) rfl <| .cons (t := 2) rfl <| .cons (t := 7) rfl <| .cons (t := 10) rfl <| .cons (t := 11) rfl <| .cons (t := 12) rfl <| SubK.nil _) qD qD qF
      · try simp only [decide_eq_true_eq, decide_eq_false_iff_not, Bool.not_eq_true', Bool.not_eq_false', Bool.and_eq_true, Bool.or_eq_true] at h1
        refine L.guardF (dj := 21) (c := false) rfl rfl rfl rfl rfl (by decide) ?_
        refine L.guardF (dj := 21) (c := false) rfl rfl rfl rfl rfl (by decide) ?_
        refine L.guardF (dj := 21) (c := false) rfl rfl rfl rfl rfl (by decide) ?_
        refine L.guardF (dj := 21) (c := false) rfl rfl rfl rfl rfl (by decide) ?_
        refine L.pickF rfl rfl rfl ?_
        refine L.nil ?_
        refine T.thenN ?_
        exact T.toJoin ⟨_, (by rcases y with ⟨y1, y2, y3⟩; simp_all [isN, isK]), rfl, rfl, rfl⟩ (.cons (t := 26) rfl <| SubK.nil _) (.cons (t := 1) rfl <| .cons (t := 2) rfl <| .cons (t := 7) rfl <| .cons (t := 10) rfl <| .cons (t := 11) rfl <| .cons (t := 12) rfl <| SubK.nil _) qD qD qF
    rintro _ _ _ ⟨w0, hw0, rfl, rfl, rfl⟩
    refine T.norm3 qA qA qA ?_
    refine T.thenN ?_
    refine T.cond rfl (fun h26 => ?_) (fun h26 => ?_)
    · try simp only [decide_eq_true_eq, decide_eq_false_iff_not, Bool.not_eq_true', Bool.not_eq_false', Bool.and_eq_true, Bool.or_eq_true] at h26
      have hp : isN n w y = true := hw0.symm.trans h26
      refine T.seq ?_
      refine T.region ?_
      refine L.move rfl rfl ?_
      refine L.assign rfl rfl ?_
      refine L.nil ?_
      refine T.thenN ?_
      refine T.ret ?_
      refine T.blkR ?_
      refine T.thenR ?_
      refine T.thenR ?_
      refine T.blkR ?_
      refine T.thenR ?_
      exact T.ret1 rfl rfl ⟨by rw [findF, ixQ_at hall hgk hp], rfl, rfl⟩ qD qF
    · try simp only [decide_eq_true_eq, decide_eq_false_iff_not, Bool.not_eq_true', Bool.not_eq_false', Bool.and_eq_true, Bool.or_eq_true] at h26
      have hp : isN n w y = false := hw0.symm.trans h26
      refine T.skip ?_
      refine T.blkN ?_
      refine T.thenN ?_
      refine T.region ?_
      refine L.addN rfl rfl rfl (by omega) ?_
      refine L.move rfl rfl ?_
      refine L.nil ?_
      refine T.thenN ?_
      exact T.back ⟨k + 1, ⟨by omega, take_all (p := fun y => isN n w y = false) hall hgk (by first | (simp [isN, isK, *]; done) | (rcases y with ⟨y1, y2, y3⟩; simp_all [isN, isK]))⟩, rfl, rfl, rfl, rfl⟩ qI (.cons (t := 12) rfl <| SubK.nil _) (.cons (t := 1) rfl <| .cons (t := 2) rfl <| .cons (t := 10) rfl <| .cons (t := 11) rfl <| SubK.nil _) qD qD qF
  · try simp only [decide_eq_true_eq, decide_eq_false_iff_not, Bool.not_eq_true', Bool.not_eq_false', Bool.and_eq_true, Bool.or_eq_true] at h13
    obtain rfl : k = tb.length := by omega
    refine T.exit ?_
    refine T.thenX ?_
    refine T.thenX ?_
    refine T.blkX ?_
    refine T.thenN ?_
    refine T.seq ?_
    refine T.region ?_
    refine L.assign rfl rfl ?_
    refine L.nil ?_
    refine T.thenN ?_
    refine T.ret ?_
    exact T.ret1 rfl rfl ⟨by rw [findF, ixQ_none (fun y hy => hall y (by rw [List.take_length]; exact hy))], rfl, rfl⟩ qD qF
set_option maxHeartbeats 400000 in
theorem first_spec {a : Option Addr} {len cap : Nat} {o : Int} {tb : List One} {n : Int} {w : Bool} (hb : tb.length ≤ 100000) : Spec Try.prog 57 [.agg [.int .i64 o, .slice a len cap].toArray, .int .i64 n, .bool w] [rsl 3 a len cap ((tb).map orow)] [] (fun v D' M' => v = .int .i64 (firstF tb n w) ∧ D' = [] ∧ M' = []) := by
  refine Spec.intro (n := 29) Try.func57 rfl rfl (by decide) (Nat.le_of_ble_eq_true rfl) rfl (fun _ => qA) (fun _ => qA) ?_
  intro σ D M
  refine T.rslLen2 (rows := tb.map orow) qM (fun hl hcp => ?_)
  rw [List.length_map] at hl
  subst hl
  refine T.seq ?_
  refine T.region ?_
  refine L.box rfl rfl rfl (fun b3 => ?_)
  refine L.assign rfl rfl ?_
  refine L.nil ?_
  refine T.thenN ?_
  refine T.seq ?_
  refine T.seq ?_
  refine T.region ?_
  first | refine L.field0 rfl fo47_1 rfl ?_ | refine L.field rfl fo47_1 rfl ?_
  refine L.load rfl sc45 rfl qC ?_
  refine L.lenSl rfl Try.underlying45 rfl ?_
  refine L.move rfl rfl ?_
  refine L.nil ?_
  refine T.thenN ?_
  refine T.block ?_
  refine T.loop (fun K' D' M' μ => ∃ (k : Nat), (k ≤ tb.length ∧ ∀ y ∈ tb.take k, isK n w y = false) ∧ K' = [(12, .int .i64 k)] ∧ D' = [] ∧ M' = [] ∧ μ = tb.length - k) (.cons (t := 1) rfl <| .cons (t := 2) rfl <| .cons (t := 10) rfl <| .cons (t := 11) rfl <| SubK.nil _) (⟨0, ⟨by omega, fun y hy => by simp at hy⟩, rfl, rfl, rfl, rfl⟩) (.cons (t := 12) rfl <| SubK.nil _) qD qS ?_
  rintro K1 D1 M1 m1 ⟨k, ⟨hk, hall⟩, rfl, rfl, rfl, rfl⟩
  refine T.norm3 qA qA qA ?_
  refine T.seq ?_
  refine T.region ?_
  refine L.ltI rfl rfl rfl ?_
  refine L.nil ?_
  refine T.thenN ?_
  refine T.seq ?_
  refine T.cond rfl (fun h13 => ?_) (fun h13 => ?_)
  · try simp only [decide_eq_true_eq, decide_eq_false_iff_not, Bool.not_eq_true', Bool.not_eq_false', Bool.and_eq_true, Bool.or_eq_true] at h13
    refine T.skip ?_
    refine T.thenN ?_
    refine T.seq ?_
    refine T.block ?_
    refine T.seq ?_
    refine T.region ?_
    have hgk : tb[k]? = some (gd tb k) := gd_get (by omega)
    refine L.idx (i := k) rfl Try.underlying45 sz96 rfl rfl qM (by first | rfl | omega | (simp; done)) qG (fun b14 o14 => ?_)
    refine L.loadA rfl ag96 rfl qN ?_
    refine L.alloc rfl ze96 (fun b8 => ?_)
    refine L.storeA ag96 rfl rfl qL qO qU qW ?_
    refine L.nil ?_
    obtain ⟨y, hy⟩ : ∃ y, y = gd tb k := ⟨_, rfl⟩
    rw [← hy] at hgk ⊢
    refine T.thenN ?_
    refine T.seq ?_
    refine T.cutC (fun K' D' M' => ∃ (w0 : Bool), (w0 = isK n w y) ∧ K' = [(25, .bool w0)] ∧ D' = [] ∧ M' = [cl b8 96 (orow y)]) (M0 := [cl b8 96 (orow y)]) (.cons (t := 1) rfl <| .cons (t := 2) rfl <| .cons (t := 8) rfl <| .cons (t := 10) rfl <| .cons (t := 11) rfl <| .cons (t := 12) rfl <| SubK.nil _) qS ?_ ?_
    · skip
      refine T.region ?_
      first | refine L.field0 rfl fo96_1 rfl ?_ | refine L.field rfl fo96_1 rfl ?_
      refine L.load rfl sc3 rfl qC ?_
      refine L.move rfl rfl ?_
      refine L.eqI rfl rfl rfl ?_
      refine L.move rfl rfl ?_
      refine L.part (t := 20) rfl (fun h1 => ?_) (fun h1 => ?_)
      · try simp only [decide_eq_true_eq, decide_eq_false_iff_not, Bool.not_eq_true', Bool.not_eq_false', Bool.and_eq_true, Bool.or_eq_true] at h1
        refine L.guardT (dj := 20) rfl rfl rfl ?_
        first | refine L.field0 rfl fo96_2 rfl ?_ | refine L.field rfl fo96_2 rfl ?_
        refine L.guardT (dj := 20) rfl rfl rfl ?_
        refine L.load rfl sc4 rfl qC ?_
        refine L.guardT (dj := 20) rfl rfl rfl ?_
        refine L.move rfl rfl ?_
        refine L.guardT (dj := 20) rfl rfl rfl ?_
        refine L.eqlB Try.underlying4 rfl rfl rfl ?_
        refine L.pickT rfl rfl rfl ?_
        refine L.nil ?_
        refine T.thenN ?_
        exact T.toJoin ⟨_, (by rcases y with ⟨y1, y2, y3⟩; simp_all [isN, isK]), rfl, rfl, rfl⟩ (.cons (t := 25) rfl <| SubK.nil _) (.cons (t := 1) rfl <| .cons (t := 2) rfl <| .cons (t := 8) rfl <| .cons (t := 10) rfl <| .cons (t := 11) rfl <| .cons (t := 12) rfl <| SubK.nil _) qD qD qF
      · try simp only [decide_eq_true_eq, decide_eq_false_iff_not, Bool.not_eq_true', Bool.not_eq_false', Bool.and_eq_true, Bool.or_eq_true] at h1
        refine L.guardF (dj := 20) (c := false) rfl rfl rfl rfl rfl (by decide) ?_
        refine L.guardF (dj := 20) (c := false) rfl rfl rfl rfl rfl (by decide) ?_
        refine L.guardF (dj := 20) (c := false) rfl rfl rfl rfl rfl (by decide) ?_
        refine L.guardF (dj := 20) (c := false) rfl rfl rfl rfl rfl (by decide) ?_
        refine L.pickF rfl rfl rfl ?_
        refine L.nil ?_
        refine T.thenN ?_
        exact T.toJoin ⟨_, (by rcases y with ⟨y1, y2, y3⟩; simp_all [isN, isK]), rfl, rfl, rfl⟩ (.cons (t := 25) rfl <| SubK.nil _) (.cons (t := 1) rfl <| .cons (t := 2) rfl <| .cons (t := 8) rfl <| .cons (t := 10) rfl <| .cons (t := 11) rfl <| .cons (t := 12) rfl <| SubK.nil _) qD qD qF
    rintro _ _ _ ⟨w0, hw0, rfl, rfl, rfl⟩
    refine T.norm3 qA qA qA ?_
    refine T.thenN ?_
    refine T.cond rfl (fun h25 => ?_) (fun h25 => ?_)
    · try simp only [decide_eq_true_eq, decide_eq_false_iff_not, Bool.not_eq_true', Bool.not_eq_false', Bool.and_eq_true, Bool.or_eq_true] at h25
      have hp : isK n w y = true := hw0.symm.trans h25
      refine T.seq ?_
      refine T.region ?_
      first | refine L.field0 rfl fo96_0 rfl ?_ | refine L.field rfl fo96_0 rfl ?_
      refine L.load rfl sc3 rfl qC ?_
      refine L.assign rfl rfl ?_
      refine L.nil ?_
      refine T.thenN ?_
      refine T.ret ?_
      refine T.blkR ?_
      refine T.thenR ?_
      refine T.thenR ?_
      refine T.blkR ?_
      refine T.thenR ?_
      exact T.ret1 rfl rfl ⟨by rw [firstF, find_at hall hgk hp]; rfl, rfl, rfl⟩ qD qF
    · try simp only [decide_eq_true_eq, decide_eq_false_iff_not, Bool.not_eq_true', Bool.not_eq_false', Bool.and_eq_true, Bool.or_eq_true] at h25
      have hp : isK n w y = false := hw0.symm.trans h25
      refine T.skip ?_
      refine T.blkN ?_
      refine T.thenN ?_
      refine T.region ?_
      refine L.addN rfl rfl rfl (by omega) ?_
      refine L.move rfl rfl ?_
      refine L.nil ?_
      refine T.thenN ?_
      exact T.back ⟨k + 1, ⟨by omega, take_all (p := fun y => isK n w y = false) hall hgk (by first | (simp [isN, isK, *]; done) | (rcases y with ⟨y1, y2, y3⟩; simp_all [isN, isK]))⟩, rfl, rfl, rfl, rfl⟩ qI (.cons (t := 12) rfl <| SubK.nil _) (.cons (t := 1) rfl <| .cons (t := 2) rfl <| .cons (t := 10) rfl <| .cons (t := 11) rfl <| SubK.nil _) qD qD qF
  · try simp only [decide_eq_true_eq, decide_eq_false_iff_not, Bool.not_eq_true', Bool.not_eq_false', Bool.and_eq_true, Bool.or_eq_true] at h13
    obtain rfl : k = tb.length := by omega
    refine T.exit ?_
    refine T.thenX ?_
    refine T.thenX ?_
    refine T.blkX ?_
    refine T.thenN ?_
    refine T.seq ?_
    refine T.region ?_
    refine L.assign rfl rfl ?_
    refine L.nil ?_
    refine T.thenN ?_
    refine T.ret ?_
    exact T.ret1 rfl rfl ⟨by rw [firstF, List.find?_eq_none.2 (fun y hy => by rw [hall y (by rw [List.take_length]; exact hy)]; decide)]; rfl, rfl, rfl⟩ qD qF
set_option maxHeartbeats 400000 in
theorem count_spec {a : Option Addr} {len cap : Nat} {o : Int} {tb : List One} {n : Int} (hb : tb.length ≤ 100000) : Spec Try.prog 58 [.agg [.int .i64 o, .slice a len cap].toArray, .int .i64 n] [rsl 3 a len cap ((tb).map orow)] [] (fun v D' M' => v = .int .i64 (cntF tb n) ∧ D' = [] ∧ M' = []) := by
  refine Spec.intro (n := 28) Try.func58 rfl rfl (by decide) (Nat.le_of_ble_eq_true rfl) rfl (fun _ => qA) (fun _ => qA) ?_
  intro σ D M
  refine T.rslLen2 (rows := tb.map orow) qM (fun hl hcp => ?_)
  rw [List.length_map] at hl
  subst hl
  refine T.seq ?_
  refine T.region ?_
  refine L.box rfl rfl rfl (fun b2 => ?_)
  refine L.assign rfl rfl ?_
  refine L.nil ?_
  refine T.thenN ?_
  refine T.seq ?_
  refine T.region ?_
  refine L.assign rfl rfl ?_
  refine L.nil ?_
  refine T.thenN ?_
  refine T.seq ?_
  refine T.seq ?_
  refine T.region ?_
  first | refine L.field0 rfl fo47_1 rfl ?_ | refine L.field rfl fo47_1 rfl ?_
  refine L.load rfl sc45 rfl qC ?_
  refine L.lenSl rfl Try.underlying45 rfl ?_
  refine L.move rfl rfl ?_
  refine L.nil ?_
  refine T.thenN ?_
  refine T.block ?_
  refine T.loop (fun K' D' M' μ => ∃ (k : Nat) (c : Int), ((k ≤ tb.length ∧ 0 ≤ c ∧ c ≤ k) ∧ c = ((tb.take k).filter (isK n false)).length) ∧ K' = [(11, .int .i64 k), (5, .int .i64 c)] ∧ D' = [] ∧ M' = [] ∧ μ = tb.length - k) (.cons (t := 1) rfl <| .cons (t := 9) rfl <| .cons (t := 10) rfl <| SubK.nil _) (⟨0, 0, ⟨by omega, by simp⟩, rfl, rfl, rfl, rfl⟩) (.cons (t := 11) rfl <| .cons (t := 5) rfl <| SubK.nil _) qD qS ?_
  rintro K1 D1 M1 m1 ⟨k, c, ⟨⟨hk, hc0, hc1⟩, hc⟩, rfl, rfl, rfl, rfl⟩
  refine T.norm3 qA qA qA ?_
  refine T.seq ?_
  refine T.region ?_
  refine L.ltI rfl rfl rfl ?_
  refine L.nil ?_
  refine T.thenN ?_
  refine T.seq ?_
  refine T.cond rfl (fun h12 => ?_) (fun h12 => ?_)
  · try simp only [decide_eq_true_eq, decide_eq_false_iff_not, Bool.not_eq_true', Bool.not_eq_false', Bool.and_eq_true, Bool.or_eq_true] at h12
    refine T.skip ?_
    refine T.thenN ?_
    refine T.seq ?_
    refine T.block ?_
    refine T.seq ?_
    refine T.region ?_
    have hgk : tb[k]? = some (gd tb k) := gd_get (by omega)
    refine L.idx (i := k) rfl Try.underlying45 sz96 rfl rfl qM (by first | rfl | omega | (simp; done)) qG (fun b13 o13 => ?_)
    refine L.loadA rfl ag96 rfl qN ?_
    refine L.alloc rfl ze96 (fun b7 => ?_)
    refine L.storeA ag96 rfl rfl qL qO qU qW ?_
    refine L.nil ?_
    obtain ⟨y, hy⟩ : ∃ y, y = gd tb k := ⟨_, rfl⟩
    rw [← hy] at hgk ⊢
    refine T.thenN ?_
    refine T.seq ?_
    refine T.cutC (fun K' D' M' => ∃ (w0 : Bool), (w0 = isK n false y) ∧ K' = [(23, .bool w0)] ∧ D' = [] ∧ M' = [cl b7 96 (orow y)]) (M0 := [cl b7 96 (orow y)]) (.cons (t := 1) rfl <| .cons (t := 5) rfl <| .cons (t := 9) rfl <| .cons (t := 10) rfl <| .cons (t := 11) rfl <| SubK.nil _) qS ?_ ?_
    · skip
      refine T.region ?_
      first | refine L.field0 rfl fo96_1 rfl ?_ | refine L.field rfl fo96_1 rfl ?_
      refine L.load rfl sc3 rfl qC ?_
      refine L.move rfl rfl ?_
      refine L.eqI rfl rfl rfl ?_
      refine L.move rfl rfl ?_
      refine L.part (t := 19) rfl (fun h1 => ?_) (fun h1 => ?_)
      · try simp only [decide_eq_true_eq, decide_eq_false_iff_not, Bool.not_eq_true', Bool.not_eq_false', Bool.and_eq_true, Bool.or_eq_true] at h1
        refine L.guardT (dj := 19) rfl rfl rfl ?_
        first | refine L.field0 rfl fo96_2 rfl ?_ | refine L.field rfl fo96_2 rfl ?_
        refine L.guardT (dj := 19) rfl rfl rfl ?_
        refine L.load rfl sc4 rfl qC ?_
        refine L.guardT (dj := 19) rfl rfl rfl ?_
        refine L.notB rfl rfl ?_
        refine L.pickT rfl rfl rfl ?_
        refine L.nil ?_
        refine T.thenN ?_
        exact T.toJoin ⟨_, (by rcases y with ⟨y1, y2, y3⟩; simp_all [isK]), rfl, rfl, rfl⟩ (.cons (t := 23) rfl <| SubK.nil _) (.cons (t := 1) rfl <| .cons (t := 5) rfl <| .cons (t := 9) rfl <| .cons (t := 10) rfl <| .cons (t := 11) rfl <| SubK.nil _) qD qD qF
      · try simp only [decide_eq_true_eq, decide_eq_false_iff_not, Bool.not_eq_true', Bool.not_eq_false', Bool.and_eq_true, Bool.or_eq_true] at h1
        refine L.guardF (dj := 19) (c := false) rfl rfl rfl rfl rfl (by decide) ?_
        refine L.guardF (dj := 19) (c := false) rfl rfl rfl rfl rfl (by decide) ?_
        refine L.guardF (dj := 19) (c := false) rfl rfl rfl rfl rfl (by decide) ?_
        refine L.pickF rfl rfl rfl ?_
        refine L.nil ?_
        refine T.thenN ?_
        exact T.toJoin ⟨_, (by rcases y with ⟨y1, y2, y3⟩; simp_all [isK]), rfl, rfl, rfl⟩ (.cons (t := 23) rfl <| SubK.nil _) (.cons (t := 1) rfl <| .cons (t := 5) rfl <| .cons (t := 9) rfl <| .cons (t := 10) rfl <| .cons (t := 11) rfl <| SubK.nil _) qD qD qF
    rintro _ _ _ ⟨w0, hw0, rfl, rfl, rfl⟩
    refine T.norm3 qA qA qA ?_
    refine T.thenN ?_
    refine T.cond rfl (fun h23 => ?_) (fun h23 => ?_)
    · try simp only [decide_eq_true_eq, decide_eq_false_iff_not, Bool.not_eq_true', Bool.not_eq_false', Bool.and_eq_true, Bool.or_eq_true] at h23
      have hp : isK n false y = true := hw0.symm.trans h23
      refine T.region ?_
      refine L.move rfl rfl ?_
      refine L.addN rfl rfl rfl (by omega) ?_
      refine L.assign rfl rfl ?_
      refine L.nil ?_
      refine T.blkN ?_
      refine T.thenN ?_
      refine T.region ?_
      refine L.addN rfl rfl rfl (by omega) ?_
      refine L.move rfl rfl ?_
      refine L.nil ?_
      refine T.thenN ?_
      exact T.back ⟨k + 1, c + 1, ⟨by omega, by rw [hc, take_snoc hgk, List.filter_append, List.length_append, List.filter_cons, hp, if_pos rfl]; simp⟩, rfl, rfl, rfl, rfl⟩ qI (.cons (t := 11) rfl <| .cons (t := 5) rfl <| SubK.nil _) (.cons (t := 1) rfl <| .cons (t := 9) rfl <| .cons (t := 10) rfl <| SubK.nil _) qD qD qF
    · try simp only [decide_eq_true_eq, decide_eq_false_iff_not, Bool.not_eq_true', Bool.not_eq_false', Bool.and_eq_true, Bool.or_eq_true] at h23
      have hp : isK n false y = false := hw0.symm.trans h23
      refine T.skip ?_
      refine T.blkN ?_
      refine T.thenN ?_
      refine T.region ?_
      refine L.addN rfl rfl rfl (by omega) ?_
      refine L.move rfl rfl ?_
      refine L.nil ?_
      refine T.thenN ?_
      exact T.back ⟨k + 1, c, ⟨by omega, by rw [hc, take_snoc hgk, List.filter_append, List.length_append, List.filter_cons, hp, if_neg (by decide)]; simp⟩, rfl, rfl, rfl, rfl⟩ qI (.cons (t := 11) rfl <| .cons (t := 5) rfl <| SubK.nil _) (.cons (t := 1) rfl <| .cons (t := 9) rfl <| .cons (t := 10) rfl <| SubK.nil _) qD qD qF
  · try simp only [decide_eq_true_eq, decide_eq_false_iff_not, Bool.not_eq_true', Bool.not_eq_false', Bool.and_eq_true, Bool.or_eq_true] at h12
    obtain rfl : k = tb.length := by omega
    refine T.exit ?_
    refine T.thenX ?_
    refine T.thenX ?_
    refine T.blkX ?_
    refine T.thenN ?_
    refine T.seq ?_
    refine T.region ?_
    refine L.move rfl rfl ?_
    refine L.assign rfl rfl ?_
    refine L.nil ?_
    refine T.thenN ?_
    refine T.ret ?_
    exact T.ret1 rfl rfl ⟨by rw [hc, List.take_length]; rfl, rfl, rfl⟩ qD qF
end Cv
