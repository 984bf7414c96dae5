/-
  My own library for walks, a text of it (CvTree): separation logic over the kit's Calls; no statement of this seat stands here.
-/
import Derived.Test.YtdajpfbgikgkeaaCvExt
import Derived.Test.YtdajpfbgikgkeaaCvArg
set_option linter.unusedVariables false
set_option linter.unusedSimpArgs false
set_option linter.unusedSectionVars false
namespace Cv
open Go
/-! ## trees of files: an entry (name, kind, text, what is in it) -/
inductive Tr where
  | mk (n : List UInt8) (k : Int) (t : List UInt8) (ks : List Tr)
namespace Tr
def n : Tr → List UInt8 | .mk n _ _ _ => n
def k : Tr → Int | .mk _ k _ _ => k
def t : Tr → List UInt8 | .mk _ _ t _ => t
def ks : Tr → List Tr | .mk _ _ _ ks => ks
def named (x : Tr) (m : List UInt8) : Tr := .mk m x.k x.t x.ks
theorem eta (x : Tr) : x = .mk x.n x.k x.t x.ks := by cases x; rfl
theorem ind {p : Tr → Prop} (h : ∀ x, (∀ y ∈ x.ks, p y) → p x) (x : Tr) : p x := h x (fun y hy => ind h y)
termination_by sizeOf x
decreasing_by
  cases x with
  | mk n k t ks =>
    have := List.sizeOf_lt_of_mem (show y ∈ ks from hy)
    simp only [Tr.mk.sizeOf_spec]
    omega
end Tr
instance : Inhabited Tr := ⟨.mk [] 0 [] []⟩
@[reducible] def eRow (x : Tr) (a : Option Addr) (len cap : Nat) : List Value := [S x.n, .int .i64 x.k, S x.t, .slice a len cap]
@[reducible] def iRow (x : Tr) (a : Option Addr) (len cap : Nat) : List Value := [.int .i64 x.k, S x.t, .slice a len cap]
/-- an entry's cells: row; what is in it lies in memory -/
inductive RT (h : Hp) : Tr → List Value → Prop where
  | mk {x : Tr} {a : Option Addr} {len cap : Nat} {rows : List (List Value)} (h1 : rsl 4 a len cap rows h) (h2 : rows.length = x.ks.length) (h3 : ∀ (i : Nat) (y : Tr) (r : List Value), x.ks[i]? = some y → rows[i]? = some r → RT h y r) : RT h x (eRow x a len cap)
theorem rsl_mono {sz len cap : Nat} {a : Option Addr} {rows : List (List Value)} {h k : Hp} (H : rsl sz a len cap rows h) (l : Hp.le h k) : rsl sz a len cap rows k := by
  obtain ⟨h1, h2, h3, h4⟩ := H
  refine ⟨h1, h2, h3, ?_⟩
  rcases h4 with e | ⟨b, o, c, t, m, e1, e2, e3⟩
  · exact .inl e
  · exact .inr ⟨b, o, c, t, m, e1, l _ _ e2, e3⟩
theorem RT.mono {h k : Hp} (l : Hp.le h k) {x : Tr} {r : List Value} (H : RT h x r) : RT k x r := by
  induction H with
  | mk h1 h2 h3 ih => exact .mk (rsl_mono h1 l) h2 ih
def rtr (x : Tr) (row : List Value) : Asn := fun h => RT h x row
def kidsA (ks : List Tr) (rows : List (List Value)) : Asn := fun h => rows.length = ks.length ∧ ∀ (i : Nat) (y : Tr) (r : List Value), ks[i]? = some y → rows[i]? = some r → RT h y r
theorem Sat.facts2 {σ w : World} {D M : List Asn} {φ ψ χ : Asn} (h : Sat σ D M w) (e1 : φ ∈ D) (e2 : ψ ∈ D) (m1 : ∀ y z, φ y → Hp.le y z → φ z) (m2 : ∀ y z, ψ y → Hp.le y z → ψ z) (i : ∀ z, φ z → ψ z → χ z) : Sat σ (χ :: D) M w := by
  obtain ⟨z, k, a, b, c, d, f⟩ := h.heap
  refine ⟨h.os, h.tape, h.output, z, k, a, b, c, fun θ hθ => ?_, f⟩
  cases hθ with
  | head =>
    obtain ⟨y1, l1, p1⟩ := d φ e1
    obtain ⟨y2, l2, p2⟩ := d ψ e2
    exact ⟨z, Hp.le.refl _, i z (m1 _ _ p1 l1) (m2 _ _ p2 l2)⟩
  | tail _ h' => exact d θ h'
section
variable {σ : World} {n : Nat} {G : Act → World → Prop} {K : Env} {D M : List Asn}
theorem T.facts2 {φ ψ χ : Asn} (e1 : φ ∈ D) (e2 : ψ ∈ D) (m1 : ∀ y z, φ y → Hp.le y z → φ z) (m2 : ∀ y z, ψ y → Hp.le y z → ψ z) (i : ∀ z, φ z → ψ z → χ z) (next : T σ n G K (χ :: D) M) : T σ n G K D M := fun a w s t => next a w s (t.facts2 e1 e2 m1 m2 i)
theorem T.fact0 {φ : Asn} (h : ∀ z, φ z) (next : T σ n G K (φ :: D) M) : T σ n G K D M := fun a w s t => by
  obtain ⟨z, k, h1, h2, h3, h4, h5⟩ := t.heap
  refine next a w s ⟨t.os, t.tape, t.output, z, k, h1, h2, h3, fun χ hχ => ?_, h5⟩
  cases hχ with
  | head => exact ⟨z, Hp.le.refl _, h z⟩
  | tail _ h' => exact h4 χ h'
/-- a tree is opened -/
theorem T.trOpen {x : Tr} {row : List Value} (e : rtr x row ∈ D) (next : ∀ a len cap rows, row = eRow x a len cap → x.ks.length = len → rows.length = len → T σ n G K (rsl 4 a len cap rows :: kidsA x.ks rows :: D) M) : T σ n G K D M := by
  refine T.deriveEx (φ := rtr x row) (ψ := fun (p : Option Addr × Nat × Nat × List (List Value)) => fun z => row = eRow x p.1 p.2.1 p.2.2.1 ∧ rsl 4 p.1 p.2.1 p.2.2.1 p.2.2.2 z ∧ kidsA x.ks p.2.2.2 z) e (fun z H => ?_) (fun ⟨a, len, cap, rows⟩ => ?_)
  · cases H with
    | @mk _ a len cap rows h1 h2 h3 => exact ⟨(a, len, cap, rows), rfl, h1, h2, h3⟩
  · simp only
    refine T.fact (p := row = eRow x a len cap ∧ x.ks.length = len ∧ rows.length = len) mem_head (fun z ⟨h1, h2, h3, _⟩ => ⟨h1, by rw [← h3]; exact h2.1, h2.1⟩) (fun ⟨q1, q2, q3⟩ => ?_)
    refine T.derive (ψ := kidsA x.ks rows) mem_head (fun z H => H.2.2) ?_
    refine T.derive (ψ := rsl 4 a len cap rows) (mem_tail mem_head) (fun z H => H.2.1) ?_
    exact (next a len cap rows q1 q2 q3).weak (.refl _) (fun φ h => by
      rcases List.mem_cons.1 h with q | q
      · subst q; exact mem_head
      · rcases List.mem_cons.1 q with q | q
        · subst q; exact mem_tail mem_head
        · exact mem_tail (mem_tail (mem_tail q))) (.refl _)
theorem T.kid {ks : List Tr} {rows : List (List Value)} {i : Nat} {y : Tr} (e : kidsA ks rows ∈ D) (hy : ks[i]? = some y) (next : ∀ r, rows[i]? = some r → T σ n G K (rtr y r :: D) M) : T σ n G K D M :=
  T.deriveEx (φ := kidsA ks rows) (ψ := fun r => fun z => rows[i]? = some r ∧ rtr y r z) e (fun z H => by
    have hi : i < rows.length := by rw [H.1]; exact (List.getElem?_eq_some_iff.1 hy).1
    exact ⟨rows[i], List.getElem?_eq_getElem hi, H.2 i y _ hy (List.getElem?_eq_getElem hi)⟩) (fun r => by
    refine T.fact (p := rows[i]? = some r) mem_head (fun z H => H.1) (fun hr => ?_)
    refine T.derive (ψ := rtr y r) mem_head (fun z H => H.2) ?_
    exact (next r hr).weak (.refl _) (fun φ h => by
      rcases List.mem_cons.1 h with q | q
      · subst q; exact mem_head
      · exact mem_tail (mem_tail q)) (.refl _))
/-- a tree whose cells are known is opened -/
theorem T.trOpenR {x : Tr} {a : Option Addr} {len cap : Nat} (e : rtr x (eRow x a len cap) ∈ D) (next : ∀ rows, x.ks.length = len → rows.length = len → T σ n G K (rsl 4 a len cap rows :: kidsA x.ks rows :: D) M) : T σ n G K D M :=
  T.trOpen e (fun a' len' cap' rows hrow h1 h2 => by
    simp only [List.cons.injEq, Value.slice.injEq, and_true, true_and] at hrow
    obtain ⟨rfl, rfl, rfl⟩ := hrow
    exact next rows h1 h2)
/-- a kid, opened -/
theorem T.kidOpen {ks : List Tr} {rows : List (List Value)} {i : Nat} {y : Tr} (e : kidsA ks rows ∈ D) (hy : ks[i]? = some y) (next : ∀ a len cap, rows[i]? = some (eRow y a len cap) → T σ n G K (rtr y (eRow y a len cap) :: D) M) : T σ n G K D M :=
  T.kid e hy (fun r hr => by
    refine T.fact (p := ∃ a len cap, r = eRow y a len cap) mem_head (fun z H => by
      cases H with
      | @mk _ a len cap rows h1 h2 h3 => exact ⟨a, len, cap, rfl⟩) (fun ⟨a, len, cap, hq⟩ => ?_)
    subst hq
    exact next a len cap hr)
theorem T.kidRows {ks : List Tr} {rows : List (List Value)} (e : kidsA ks rows ∈ D) (next : (∀ (j : Nat) (y : Tr), ks[j]? = some y → ∃ a len cap, rows[j]? = some (eRow y a len cap)) → T σ n G K D M) : T σ n G K D M :=
  T.fact e (fun z H j y hy => by
    have hj : j < rows.length := by rw [H.1]; exact (List.getElem?_eq_some_iff.1 hy).1
    have h := H.2 j y _ hy (List.getElem?_eq_getElem hj)
    obtain ⟨r, hr⟩ : ∃ r, rows[j] = r := ⟨_, rfl⟩
    rw [hr] at h
    cases h with
    | @mk _ a len cap rows' h1 h2 h3 => exact ⟨a, len, cap, by rw [List.getElem?_eq_getElem hj, hr]⟩) next
theorem kidsA_mono {ks : List Tr} {rows : List (List Value)} (y z : Hp) (H : kidsA ks rows y) (l : Hp.le y z) : kidsA ks rows z := ⟨H.1, fun i x r h1 h2 => (H.2 i x r h1 h2).mono l⟩
theorem rtr_mono {x : Tr} {r : List Value} (y z : Hp) (H : rtr x r y) (l : Hp.le y z) : rtr x r z := RT.mono l H
theorem kidsA_nil (z : Hp) : kidsA [] [] z := ⟨rfl, fun i y r h => by simp at h⟩
theorem T.kidSnoc {ks : List Tr} {rows : List (List Value)} {y : Tr} {r : List Value} (e1 : kidsA ks rows ∈ D) (e2 : rtr y r ∈ D) (next : T σ n G K (kidsA (ks ++ [y]) (rows ++ [r]) :: D) M) : T σ n G K D M :=
  T.facts2 e1 e2 kidsA_mono rtr_mono (fun z H1 H2 => ⟨by simp [H1.1], fun i x q h1 h2 => by
    have hl := H1.1
    by_cases hi : i < ks.length
    · rw [List.getElem?_append_left hi] at h1
      rw [List.getElem?_append_left (by omega)] at h2
      exact H1.2 i x q h1 h2
    · rw [List.getElem?_append_right (by omega)] at h1
      rw [List.getElem?_append_right (by omega)] at h2
      have : i - ks.length = 0 := by
        have := (List.getElem?_eq_some_iff.1 h1).1
        simp at this; omega
      rw [this] at h1
      rw [show i - rows.length = 0 by omega] at h2
      simp at h1 h2
      subst h1; subst h2
      exact H2⟩) next
/-- a tree is made -/
theorem T.trMk {x : Tr} {a : Option Addr} {len cap : Nat} {rows : List (List Value)} (e1 : rsl 4 a len cap rows ∈ D) (e2 : kidsA x.ks rows ∈ D) (next : T σ n G K (rtr x (eRow x a len cap) :: D) M) : T σ n G K D M :=
  T.facts2 e1 e2 (fun _ _ H l => rsl_mono H l) kidsA_mono (fun z H1 H2 => RT.mk H1 H2.1 H2.2) next
theorem T.trMkE {x : Tr} {ks : List Tr} {a : Option Addr} {len cap : Nat} {rows : List (List Value)} (h : x.ks = ks) (e1 : rsl 4 a len cap rows ∈ D) (e2 : kidsA ks rows ∈ D) (next : T σ n G K (rtr x (eRow x a len cap) :: D) M) : T σ n G K D M := by subst h; exact T.trMk e1 e2 next
/-- the name of an entry is another -/
theorem T.trName {x y : Tr} {a : Option Addr} {len cap : Nat} (e : rtr x (eRow x a len cap) ∈ D) (h : y.ks = x.ks) (next : T σ n G K (rtr y (eRow y a len cap) :: D) M) : T σ n G K D M :=
  T.derive e (fun z H => by
    have key : ∀ {x : Tr} {r : List Value}, RT z x r → r = eRow x a len cap → ∀ y : Tr, y.ks = x.ks → RT z y (eRow y a len cap) := by
      intro x r H hr y hy
      cases H with
      | @mk _ a' len' cap' rows h1 h2 h3 =>
        simp only [List.cons.injEq, Value.slice.injEq, and_true] at hr
        obtain ⟨_, _, _, rfl, rfl, rfl⟩ := hr
        exact .mk h1 (by rw [h2, hy]) (fun i x r q1 q2 => h3 i x r (by rw [← hy]; exact q1) q2)
    exact key H rfl y h) next
variable {P : Program} {Q : Post} {ops : Array Oper} {l : List Oper}
theorem L.fact0 {φ : Asn} (h : ∀ z, φ z) (next : TL none P σ n ops Q l K (φ :: D) M) : TL none P σ n ops Q l K D M := T.fact0 h next
theorem L.trName {x y : Tr} {a : Option Addr} {len cap : Nat} (e : rtr x (eRow x a len cap) ∈ D) (h : y.ks = x.ks) (next : TL none P σ n ops Q l K (rtr y (eRow y a len cap) :: D) M) : TL none P σ n ops Q l K D M := T.trName e h next
end
end Cv
