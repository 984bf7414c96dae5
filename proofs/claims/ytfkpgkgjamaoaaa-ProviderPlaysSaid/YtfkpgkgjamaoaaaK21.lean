/-
  The walks: the model of a table.
-/
import Derived.Test.YtfkpgkgjamaoaaaQ21
import Derived.Test.YtfkpgkgjamaoaaaCvLd
import Derived.Test.YtfkpgkgjamaoaaaCvLc
import Derived.Test.YtfkpgkgjamaoaaaProg
import Derived.KernelRfl
set_option linter.unusedVariables false
set_option linter.unusedSimpArgs false
set_option linter.unusedSectionVars false
set_option maxRecDepth 10000
namespace Cv
open Go Go.Proofs
/-! ## the table: the model -/
abbrev Row21 := List (Int × Int)
abbrev Tb := List (ID32 × Row21)
abbrev ML := List (ID32 × (Nat × Row21))
@[reducible] def rV2 (x : Nat × Row21) : Value := .map (some x.1)
def rA2 (p : ID32 × (Nat × Row21)) : Asn := mp p.2.1 iK iK p.2.2
def er (ml : ML) : Tb := ml.map fun p => (p.1, p.2.2)
theorem look_er {k : ID32} : ∀ {ml : ML}, look (er ml) k = (look ml k).map (·.2)
  | [] => rfl
  | (k', b, r) :: ml => by
    have e : er ((k', b, r) :: ml) = (k', r) :: er ml := rfl
    rw [e]
    simp only [look]
    by_cases h : k' = k
    · rw [if_pos h, if_pos h]; rfl
    · rw [if_neg h, if_neg h]; exact look_er
theorem er_put {k : ID32} {b : Nat} {r : Row21} : ∀ {ml : ML}, er (put ml k (b, r)) = put (er ml) k r
  | [] => rfl
  | (k', b', r') :: ml => by
    have e : er ((k', b', r') :: ml) = (k', r') :: er ml := rfl
    rw [e]
    simp only [put]
    by_cases h : k' = k
    · rw [if_pos h, if_pos h]; rfl
    · rw [if_neg h, if_neg h, ← er_put]; rfl
theorem er_del {k : ID32} : ∀ {ml : ML}, er (del ml k) = del (er ml) k
  | [] => rfl
  | (k', b', r') :: ml => by
    have e : er ((k', b', r') :: ml) = (k', r') :: er ml := rfl
    rw [e]
    simp only [del]
    by_cases h : k' = k
    · rw [if_pos h, if_pos h]
    · rw [if_neg h, if_neg h, ← er_del]; rfl
theorem er_len {ml : ML} : (er ml).length = ml.length := by unfold er; rw [List.length_map]
def tbA (tm : Nat) (t : Tb) : Asn := fun z => ∃ x : {ml : ML // er ml = t}, Holds [mp tm aK rV2 x.1, each rA2 x.1] z
theorem put_put {κ ν : Type} [DecidableEq κ] {k : κ} {u v : ν} : ∀ {l : List (κ × ν)}, put (put l k u) k v = put l k v
  | [] => by simp [put]
  | (k', w) :: l => by
    simp only [put]
    by_cases h : k' = k
    · rw [if_pos h, if_pos h]; simp [put]
    · rw [if_neg h, if_neg h]; simp only [put, if_neg h]; rw [put_put]
def putE (t : Tb) (k : ID32) (a : Int) : Int :=
  if a < 0 ∨ 64 ≤ a then 10 else
  match look t k with
  | none => if 64 ≤ t.length then 14 else 0
  | some row => if look row a = none ∧ 8 ≤ row.length then 14 else 0
def putR (row : Row21) (a u : Int) : Row21 := put row a (max ((look row a).getD 0) u)
def putT (t : Tb) (k : ID32) (a u : Int) : Tb := if putE t k a = 0 then put t k (putR ((look t k).getD []) a u) else t
theorem putN10 {ml : ML} {k : ID32} {a u : Int} (h : a < 0 ∨ 64 ≤ a) : putE (er ml) k a = 10 ∧ putT (er ml) k a u = er ml := by
  have : putE (er ml) k a = 10 := by unfold putE; rw [if_pos h]
  exact ⟨this, by unfold putT; rw [this]; rfl⟩
theorem putN14 {ml : ML} {k : ID32} {a u : Int} (h : ¬ (a < 0 ∨ 64 ≤ a)) (hl : look ml k = none) (h2 : 64 ≤ ml.length) : putE (er ml) k a = 14 ∧ putT (er ml) k a u = er ml := by
  have : putE (er ml) k a = 14 := by unfold putE; rw [if_neg h, look_er, hl]; simp only [Option.map_none]; rw [er_len, if_pos h2]
  exact ⟨this, by unfold putT; rw [this]; rfl⟩
theorem putN0 {ml : ML} {k : ID32} {a u : Int} (h : ¬ (a < 0 ∨ 64 ≤ a)) (hl : look ml k = none) (h2 : ¬ 64 ≤ ml.length) : putE (er ml) k a = 0 ∧ putT (er ml) k a u = put (er ml) k (put [] a (max 0 u)) := by
  have : putE (er ml) k a = 0 := by unfold putE; rw [if_neg h, look_er, hl]; simp only [Option.map_none]; rw [er_len, if_neg h2]
  exact ⟨this, by unfold putT; rw [this, look_er, hl]; rfl⟩
theorem putS14 {ml : ML} {k : ID32} {a u : Int} {b : Nat} {row : Row21} (h : ¬ (a < 0 ∨ 64 ≤ a)) (hl : look ml k = some (b, row)) (h2 : look row a = none ∧ 8 ≤ row.length) : putE (er ml) k a = 14 ∧ putT (er ml) k a u = er ml := by
  have : putE (er ml) k a = 14 := by unfold putE; rw [if_neg h, look_er, hl]; simp only [Option.map_some]; rw [if_pos h2]
  exact ⟨this, by unfold putT; rw [this]; rfl⟩
theorem putS0 {ml : ML} {k : ID32} {a u : Int} {b : Nat} {row : Row21} (h : ¬ (a < 0 ∨ 64 ≤ a)) (hl : look ml k = some (b, row)) (h2 : ¬ (look row a = none ∧ 8 ≤ row.length)) : putE (er ml) k a = 0 ∧ putT (er ml) k a u = put (er ml) k (putR row a u) := by
  have : putE (er ml) k a = 0 := by unfold putE; rw [if_neg h, look_er, hl]; simp only [Option.map_some]; rw [if_neg h2]
  exact ⟨this, by unfold putT; rw [this, look_er, hl]; rfl⟩
theorem may64 (a : Int) : a < 0 ∨ (¬ a < 0 ∧ 64 ≤ a) ∨ (¬ a < 0 ∧ ¬ 64 ≤ a) := by omega
section
variable {σ : World} {sn : Nat} {G : Act → World → Prop} {K : Env} {D M N : List Asn} {tm : Nat} {t : Tb} {ml : ML} {k : ID32} {b : Nat} {row : Row21}
theorem T.emp (next : T σ sn G K D (all [] :: M)) : T σ sn G K D M := T.drop (fun h (H : Holds M h) => (show Holds (all [] :: M) h from ⟨fun _ => none, h, (fun _ _ e => by cases e), Hp.le.refl h, fun _ => .inl rfl, trivial, H⟩)) next
theorem T.tbShut (h : er ml = t) (hM : Sel [mp tm aK rV2 ml, each rA2 ml] M N) (next : T σ sn G K D (tbA tm t :: N)) : T σ sn G K D M := T.shut hM (fun z H => ⟨⟨ml, h⟩, H⟩) next
theorem T.rowOpen (hl : look ml k = some (b, row)) (hM : Pull (each rA2 ml) M N) (next : T σ sn G K D (mp b iK iK row :: each rA2 (del ml k) :: N)) : T σ sn G K D M := T.eachOpen hM hl next
theorem T.rowBack (ht : er ml = t) (hl : look ml k = some (b, row)) (hM : Sel [mp tm aK rV2 ml, mp b iK iK row, each rA2 (del ml k)] M N) (next : T σ sn G K D (tbA tm t :: N)) : T σ sn G K D M := by
  refine T.drop hM ?_
  show T σ sn G K D (mp tm aK rV2 ml :: rA2 (k, (b, row)) :: each rA2 (del ml k) :: N)
  refine T.eachBack (f := rA2) hl (N := mp tm aK rV2 ml :: N) (by repeat (first | exact Sel.nil | (apply Sel.cons; focus (repeat (first | with_reducible exact Pull.here | apply Pull.there))))) ?_
  exact T.tbShut (ml := ml) ht (N := N) (by repeat (first | exact Sel.nil | (apply Sel.cons; focus (repeat (first | with_reducible exact Pull.here | apply Pull.there))))) next
theorem T.rowPut (row' : Row21) (ht : put (er ml) k row' = t) (hl : look ml k = some (b, row)) (hM : Sel [mp tm aK rV2 ml, mp b iK iK row', each rA2 (del ml k)] M N) (next : T σ sn G K D (tbA tm t :: N)) : T σ sn G K D M := by
  refine T.drop hM ?_
  show T σ sn G K D (mp tm aK rV2 ml :: rA2 (k, (b, row')) :: each rA2 (del ml k) :: N)
  refine T.eachShut (f := rA2) (b, row') hl (N := mp tm aK rV2 ml :: N) (by repeat (first | exact Sel.nil | (apply Sel.cons; focus (repeat (first | with_reducible exact Pull.here | apply Pull.there))))) ?_
  refine T.eqv (A := mp tm aK rV2 ml) (B := mp tm aK rV2 (put ml k (b, row'))) (N := each rA2 (put ml k (b, row')) :: N) qP (mp_put_same (u := (b, row')) hl rfl).symm ?_
  exact T.tbShut (ml := put ml k (b, row')) (N := N) (by rw [er_put]; exact ht) (by repeat (first | exact Sel.nil | (apply Sel.cons; focus (repeat (first | with_reducible exact Pull.here | apply Pull.there))))) next
theorem T.rowNew (row' : Row21) (ht : put (er ml) k row' = t) (hl : look ml k = none) (hM : Sel [mp tm aK rV2 (put ml k (b, row)), mp b iK iK row', each rA2 ml] M N) (next : T σ sn G K D (tbA tm t :: N)) : T σ sn G K D M := by
  refine T.drop hM ?_
  show T σ sn G K D (mp tm aK rV2 (put ml k (b, row)) :: rA2 (k, (b, row')) :: each rA2 ml :: N)
  refine T.eachNew (f := rA2) (b, row') hl (N := mp tm aK rV2 (put ml k (b, row)) :: N) (by repeat (first | exact Sel.nil | (apply Sel.cons; focus (repeat (first | with_reducible exact Pull.here | apply Pull.there))))) ?_
  have h1 : look (put ml k (b, row)) k = some (b, row) := by rw [look_put, if_pos rfl]
  refine T.eqv (A := mp tm aK rV2 (put ml k (b, row))) (B := mp tm aK rV2 (put ml k (b, row'))) (N := each rA2 (put ml k (b, row')) :: N) qP (by have := (mp_put_same (b := tm) (kenc := aK) (venc := rV2) (u := (b, row')) h1 rfl).symm; rwa [put_put] at this) ?_
  exact T.tbShut (ml := put ml k (b, row')) (N := N) (by rw [er_put]; exact ht) (by repeat (first | exact Sel.nil | (apply Sel.cons; focus (repeat (first | with_reducible exact Pull.here | apply Pull.there))))) next
theorem Spec.tb {P : Program} {f : FuncId} {args : List Value} {D0 : List Asn} {R : Value → List Asn → List Asn → Prop} {tm : Nat} {t : Tb} (hf : IsFn P f) (h : ∀ ml, er ml = t → Spec P f args D0 [mp tm aK rV2 ml, each rA2 ml] R) : Spec P f args D0 [tbA tm t] R where
  fn := hf
  run σ D M w s := by
    obtain ⟨⟨ml, hm⟩, s2⟩ := s.ex (A := fun (x : {ml : ML // er ml = t}) => fun z => Holds [mp tm aK rV2 x.1, each rA2 x.1] z)
    exact (h ml hm).run σ D M w (s2.ent Ent.unfold)
end
/-! ## who has a name -/
def getF (row : Row21) (now : Int) (xs : List Int) : List Int := xs.filter fun n => decide (now < (look row n).getD 0)
def rowT (t : Tb) (k : ID32) : Row21 := (look t k).getD []
theorem getF_take {row : Row21} {now : Int} {xs : List Int} {i : Nat} {n : Int} (h : xs[i]? = some n) : getF row now (xs.take (i + 1)) = getF row now (xs.take i) ++ if now < (look row n).getD 0 then [n] else [] := by
  unfold getF
  rw [List.take_add_one, h, List.filter_append]
  simp [List.filter_cons]
def delL (row : Row21) (xs : List Int) : Row21 := xs.foldl del row
theorem delL_take {row : Row21} {xs : List Int} {i : Nat} {n : Int} (h : xs[i]? = some n) : delL row (xs.take (i + 1)) = del (delL row (xs.take i)) n := by
  unfold delL
  rw [List.take_add_one, h, List.foldl_append]; rfl
theorem del_len {κ ν : Type} [DecidableEq κ] {k : κ} : ∀ {l : List (κ × ν)}, (del l k).length ≤ l.length
  | [] => Nat.le_refl _
  | (k', v) :: l => by
    simp only [del]
    split
    · simp
    · have := del_len (k := k) (l := l); simp only [List.length_cons]; omega
theorem delL_len {xs : List Int} : ∀ {row : Row21}, (delL row xs).length ≤ row.length := by
  induction xs with
  | nil => intro row; exact Nat.le_refl _
  | cons x xs ih => intro row; exact Nat.le_trans (ih (row := del row x)) del_len
def dropT (t : Tb) (k : ID32) (xs : List Int) : Tb :=
  match look t k with
  | none => t
  | some row => if delL row xs = [] then del t k else put t k (delL row xs)
theorem dropN {ml : ML} {k : ID32} {xs : List Int} (hl : look ml k = none) : dropT (er ml) k xs = er ml := by unfold dropT; rw [look_er, hl]; rfl
theorem dropS {ml : ML} {k : ID32} {xs : List Int} {b : Nat} {row : Row21} (hl : look ml k = some (b, row)) : dropT (er ml) k xs = if delL row xs = [] then del (er ml) k else put (er ml) k (delL row xs) := by unfold dropT; rw [look_er, hl]; rfl
theorem rowN {ml : ML} {k : ID32} (hl : look ml k = none) : rowT (er ml) k = [] := by unfold rowT; rw [look_er, hl]; rfl
theorem rowS {ml : ML} {k : ID32} {b : Nat} {row : Row21} (hl : look ml k = some (b, row)) : rowT (er ml) k = row := by unfold rowT; rw [look_er, hl]; rfl
@[reducible] def aR (k : ID32) : List Value := k.1.map Y


end Cv
