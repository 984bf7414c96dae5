/-
  My own library for walks (CvTree CvUtf CvTreeArg CvMake CvBld CvSha CvWord2 CvBwo): separation logic over the calls of the kit; no statement of this seat stands here.
-/
import Derived.Test.YtncgoodlhmpfcaaGreatCvLd
import Derived.Test.YtncgoodlhmpfcaaGreatCvLf
import Derived.ProofKit
import Derived.SizedLaws
import Derived.Deep.Slices
import Derived.Laws.RangeString
import Derived.Laws.Runes
import Derived.Laws.OwnMore
import Derived.Laws.IdiomStrings
import Derived.Lib.Builder
import Derived.Lib.UnsafeStr
set_option linter.all false
namespace Cv
open Go
/-! ## trees of files: an entry (name, kind, text, what is in it) -/
inductive Tr where
  | mk (n : List UInt8) (k : Int) (t : List UInt8) (ks : List Tr)
namespace Tr
def n : Tr → List UInt8 | .mk n _ _ _ => n
def k : Tr → Int | .mk _ k _ _ => k
def t : Tr → List UInt8 | .mk _ _ t _ => t
def ks : Tr → List Tr | .mk _ _ _ ks => ks
def named (x : Tr) (m : List UInt8) : Tr := .mk m x.k x.t x.ks
theorem eta (x : Tr) : x = .mk x.n x.k x.t x.ks := by cases x; rfl
theorem ind {p : Tr → Prop} (h : ∀ x, (∀ y ∈ x.ks, p y) → p x) (x : Tr) : p x := h x (fun y hy => ind h y)
termination_by sizeOf x
decreasing_by
  cases x with
  | mk n k t ks =>
    have := List.sizeOf_lt_of_mem (show y ∈ ks from hy)
    simp only [Tr.mk.sizeOf_spec]
    omega
end Tr
instance : Inhabited Tr := ⟨.mk [] 0 [] []⟩
@[reducible] def eRow (x : Tr) (a : Option Addr) (len cap : Nat) : List Value := [S x.n, .int .i64 x.k, S x.t, .slice a len cap]
@[reducible] def iRow (x : Tr) (a : Option Addr) (len cap : Nat) : List Value := [.int .i64 x.k, S x.t, .slice a len cap]
inductive RT (h : Hp) : Tr → List Value → Prop where
  | mk {x : Tr} {a : Option Addr} {len cap : Nat} {rows : List (List Value)} (h1 : rsl 4 a len cap rows h) (h2 : rows.length = x.ks.length) (h3 : ∀ (i : Nat) (y : Tr) (r : List Value), x.ks[i]? = some y → rows[i]? = some r → RT h y r) : RT h x (eRow x a len cap)
theorem rsl_mono {sz len cap : Nat} {a : Option Addr} {rows : List (List Value)} {h k : Hp} (H : rsl sz a len cap rows h) (l : Hp.le h k) : rsl sz a len cap rows k := by
  obtain ⟨h1, h2, h3, h4⟩ := H
  refine ⟨h1, h2, h3, ?_⟩
  rcases h4 with e | ⟨b, o, c, t, m, e1, e2, e3⟩
  · exact .inl e
  · exact .inr ⟨b, o, c, t, m, e1, l _ _ e2, e3⟩
theorem RT.mono {h k : Hp} (l : Hp.le h k) {x : Tr} {r : List Value} (H : RT h x r) : RT k x r := by
  induction H with
  | mk h1 h2 h3 ih => exact .mk (rsl_mono h1 l) h2 ih
def rtr (x : Tr) (row : List Value) : Asn := fun h => RT h x row
def kidsA (ks : List Tr) (rows : List (List Value)) : Asn := fun h => rows.length = ks.length ∧ ∀ (i : Nat) (y : Tr) (r : List Value), ks[i]? = some y → rows[i]? = some r → RT h y r
theorem Sat.facts2 {σ w : World} {D M : List Asn} {φ ψ χ : Asn} (h : Sat σ D M w) (e1 : φ ∈ D) (e2 : ψ ∈ D) (m1 : ∀ y z, φ y → Hp.le y z → φ z) (m2 : ∀ y z, ψ y → Hp.le y z → ψ z) (i : ∀ z, φ z → ψ z → χ z) : Sat σ (χ :: D) M w := by
  obtain ⟨z, k, a, b, c, d, f⟩ := h.heap
  refine ⟨h.os, h.tape, h.output, z, k, a, b, c, fun θ hθ => ?_, f⟩
  cases hθ with
  | head =>
    obtain ⟨y1, l1, p1⟩ := d φ e1
    obtain ⟨y2, l2, p2⟩ := d ψ e2
    exact ⟨z, Hp.le.refl _, i z (m1 _ _ p1 l1) (m2 _ _ p2 l2)⟩
  | tail _ h' => exact d θ h'
section
variable {σ : World} {n : Nat} {G : Act → World → Prop} {K : Env} {D M : List Asn}
theorem T.facts2 {φ ψ χ : Asn} (e1 : φ ∈ D) (e2 : ψ ∈ D) (m1 : ∀ y z, φ y → Hp.le y z → φ z) (m2 : ∀ y z, ψ y → Hp.le y z → ψ z) (i : ∀ z, φ z → ψ z → χ z) (next : T σ n G K (χ :: D) M) : T σ n G K D M := fun a w s t => next a w s (t.facts2 e1 e2 m1 m2 i)
theorem T.fact0 {φ : Asn} (h : ∀ z, φ z) (next : T σ n G K (φ :: D) M) : T σ n G K D M := fun a w s t => by
  obtain ⟨z, k, h1, h2, h3, h4, h5⟩ := t.heap
  refine next a w s ⟨t.os, t.tape, t.output, z, k, h1, h2, h3, fun χ hχ => ?_, h5⟩
  cases hχ with
  | head => exact ⟨z, Hp.le.refl _, h z⟩
  | tail _ h' => exact h4 χ h'
theorem T.trOpen {x : Tr} {row : List Value} (e : rtr x row ∈ D) (next : ∀ a len cap rows, row = eRow x a len cap → x.ks.length = len → rows.length = len → T σ n G K (rsl 4 a len cap rows :: kidsA x.ks rows :: D) M) : T σ n G K D M := by
  refine T.deriveEx (φ := rtr x row) (ψ := fun (p : Option Addr × Nat × Nat × List (List Value)) => fun z => row = eRow x p.1 p.2.1 p.2.2.1 ∧ rsl 4 p.1 p.2.1 p.2.2.1 p.2.2.2 z ∧ kidsA x.ks p.2.2.2 z) e (fun z H => ?_) (fun ⟨a, len, cap, rows⟩ => ?_)
  · cases H with
    | @mk _ a len cap rows h1 h2 h3 => exact ⟨(a, len, cap, rows), rfl, h1, h2, h3⟩
  · simp only
    refine T.fact (p := row = eRow x a len cap ∧ x.ks.length = len ∧ rows.length = len) mem_head (fun z ⟨h1, h2, h3, _⟩ => ⟨h1, by rw [← h3]; exact h2.1, h2.1⟩) (fun ⟨q1, q2, q3⟩ => ?_)
    refine T.derive (ψ := kidsA x.ks rows) mem_head (fun z H => H.2.2) ?_
    refine T.derive (ψ := rsl 4 a len cap rows) (mem_tail mem_head) (fun z H => H.2.1) ?_
    exact (next a len cap rows q1 q2 q3).weak (.refl _) (fun φ h => by
      rcases List.mem_cons.1 h with q | q
      · subst q; exact mem_head
      · rcases List.mem_cons.1 q with q | q
        · subst q; exact mem_tail mem_head
        · exact mem_tail (mem_tail (mem_tail q))) (.refl _)
theorem T.kid {ks : List Tr} {rows : List (List Value)} {i : Nat} {y : Tr} (e : kidsA ks rows ∈ D) (hy : ks[i]? = some y) (next : ∀ r, rows[i]? = some r → T σ n G K (rtr y r :: D) M) : T σ n G K D M :=
  T.deriveEx (φ := kidsA ks rows) (ψ := fun r => fun z => rows[i]? = some r ∧ rtr y r z) e (fun z H => by
    have hi : i < rows.length := by rw [H.1]; exact (List.getElem?_eq_some_iff.1 hy).1
    exact ⟨rows[i], List.getElem?_eq_getElem hi, H.2 i y _ hy (List.getElem?_eq_getElem hi)⟩) (fun r => by
    refine T.fact (p := rows[i]? = some r) mem_head (fun z H => H.1) (fun hr => ?_)
    refine T.derive (ψ := rtr y r) mem_head (fun z H => H.2) ?_
    exact (next r hr).weak (.refl _) (fun φ h => by
      rcases List.mem_cons.1 h with q | q
      · subst q; exact mem_head
      · exact mem_tail (mem_tail q)) (.refl _))
theorem T.trOpenR {x : Tr} {a : Option Addr} {len cap : Nat} (e : rtr x (eRow x a len cap) ∈ D) (next : ∀ rows, x.ks.length = len → rows.length = len → T σ n G K (rsl 4 a len cap rows :: kidsA x.ks rows :: D) M) : T σ n G K D M :=
  T.trOpen e (fun a' len' cap' rows hrow h1 h2 => by
    simp only [List.cons.injEq, Value.slice.injEq, and_true, true_and] at hrow
    obtain ⟨rfl, rfl, rfl⟩ := hrow
    exact next rows h1 h2)
theorem T.kidOpen {ks : List Tr} {rows : List (List Value)} {i : Nat} {y : Tr} (e : kidsA ks rows ∈ D) (hy : ks[i]? = some y) (next : ∀ a len cap, rows[i]? = some (eRow y a len cap) → T σ n G K (rtr y (eRow y a len cap) :: D) M) : T σ n G K D M :=
  T.kid e hy (fun r hr => by
    refine T.fact (p := ∃ a len cap, r = eRow y a len cap) mem_head (fun z H => by
      cases H with
      | @mk _ a len cap rows h1 h2 h3 => exact ⟨a, len, cap, rfl⟩) (fun ⟨a, len, cap, hq⟩ => ?_)
    subst hq
    exact next a len cap hr)
theorem T.kidRows {ks : List Tr} {rows : List (List Value)} (e : kidsA ks rows ∈ D) (next : (∀ (j : Nat) (y : Tr), ks[j]? = some y → ∃ a len cap, rows[j]? = some (eRow y a len cap)) → T σ n G K D M) : T σ n G K D M :=
  T.fact e (fun z H j y hy => by
    have hj : j < rows.length := by rw [H.1]; exact (List.getElem?_eq_some_iff.1 hy).1
    have h := H.2 j y _ hy (List.getElem?_eq_getElem hj)
    obtain ⟨r, hr⟩ : ∃ r, rows[j] = r := ⟨_, rfl⟩
    rw [hr] at h
    cases h with
    | @mk _ a len cap rows' h1 h2 h3 => exact ⟨a, len, cap, by rw [List.getElem?_eq_getElem hj, hr]⟩) next
theorem kidsA_mono {ks : List Tr} {rows : List (List Value)} (y z : Hp) (H : kidsA ks rows y) (l : Hp.le y z) : kidsA ks rows z := ⟨H.1, fun i x r h1 h2 => (H.2 i x r h1 h2).mono l⟩
theorem rtr_mono {x : Tr} {r : List Value} (y z : Hp) (H : rtr x r y) (l : Hp.le y z) : rtr x r z := RT.mono l H
theorem T.trMk {x : Tr} {a : Option Addr} {len cap : Nat} {rows : List (List Value)} (e1 : rsl 4 a len cap rows ∈ D) (e2 : kidsA x.ks rows ∈ D) (next : T σ n G K (rtr x (eRow x a len cap) :: D) M) : T σ n G K D M :=
  T.facts2 e1 e2 (fun _ _ H l => rsl_mono H l) kidsA_mono (fun z H1 H2 => RT.mk H1 H2.1 H2.2) next
theorem T.trMkE {x : Tr} {ks : List Tr} {a : Option Addr} {len cap : Nat} {rows : List (List Value)} (h : x.ks = ks) (e1 : rsl 4 a len cap rows ∈ D) (e2 : kidsA ks rows ∈ D) (next : T σ n G K (rtr x (eRow x a len cap) :: D) M) : T σ n G K D M := by subst h; exact T.trMk e1 e2 next
theorem T.trName {x y : Tr} {a : Option Addr} {len cap : Nat} (e : rtr x (eRow x a len cap) ∈ D) (h : y.ks = x.ks) (next : T σ n G K (rtr y (eRow y a len cap) :: D) M) : T σ n G K D M :=
  T.derive e (fun z H => by
    have key : ∀ {x : Tr} {r : List Value}, RT z x r → r = eRow x a len cap → ∀ y : Tr, y.ks = x.ks → RT z y (eRow y a len cap) := by
      intro x r H hr y hy
      cases H with
      | @mk _ a' len' cap' rows h1 h2 h3 =>
        simp only [List.cons.injEq, Value.slice.injEq, and_true] at hr
        obtain ⟨_, _, _, rfl, rfl, rfl⟩ := hr
        exact .mk h1 (by rw [h2, hy]) (fun i x r q1 q2 => h3 i x r (by rw [← hy]; exact q1) q2)
    exact key H rfl y h) next
variable {P : Program} {Q : Post} {ops : Array Oper} {l : List Oper}
theorem L.fact0 {φ : Asn} (h : ∀ z, φ z) (next : TL none P σ n ops Q l K (φ :: D) M) : TL none P σ n ops Q l K D M := T.fact0 h next
theorem L.trName {x y : Tr} {a : Option Addr} {len cap : Nat} (e : rtr x (eRow x a len cap) ∈ D) (h : y.ks = x.ks) (next : TL none P σ n ops Q l K (rtr y (eRow y a len cap) :: D) M) : TL none P σ n ops Q l K D M := T.trName e h next
end
end Cv
namespace Cv
open Go
/-! ## a string's signs, one by one -/
def sit (b : Nat) (l : List UInt8) (pos : Nat) : Asn := pt b (.stringIter ⟨l.toArray⟩ pos)
def decF (l : List UInt8) (pos : Nat) : Nat × Nat := Utf8.decode ⟨l.toArray⟩ pos
def EncOf (r : Nat) (l : List UInt8) : Prop := ByteArray.mk l.toArray = Utf8.encode (r : Int)
section
variable {P : Program} {σ : World} {n : Nat} {Q : Post} {K : Env} {D M N : List Asn} {m : Option (List Asn × List Asn)} {ops : Array Oper} {rest : List Oper} {d : Nat} {ty : TypeId} {pos : String} {aft : Array Edge}
theorem T.scope {c : Code} (h : T σ n (wq P c (Exit.noGoto Q)) K D M) : T σ n (wq P (Code.scope c) Q) K D M := fun a w s t => wq_scope (h a w s t)
theorem T.scR (h : T σ n (Q .ret) K D M) : T σ n (Exit.noGoto Q .ret) K D M := h
theorem L.rangeStr {t : TypeId} {x : Operand} {l : List UInt8} (hd : Nat.blt d n = true) (hU : P.underlying t = some .string) (hx : ev K x = some (S l))
    (next : ∀ it, TL none P σ n ops Q rest ((d, .pointer (some ⟨it, 0, none⟩)) :: K) D (sit it l 0 :: M)) : TL none P σ n ops Q (⟨some d, .range t x, ty, pos, aft, none⟩ :: rest) K D M :=
  L.valEx hd (fun v D' M' => ∃ it, v = .pointer (some ⟨it, 0, none⟩) ∧ D' = D ∧ M' = sit it l 0 :: M) (fun a w s ss => by
    have ex : a.eval x = _ := s.eval hx
    have hr := run_range_string (P := P) w t ⟨l.toArray⟩ hU
    refine ⟨_, _, _, w.alloc (.stringIter ⟨l.toArray⟩ 0), ?_, ⟨w.heap.size, rfl, rfl, rfl⟩, ss.alloc _⟩
    simp only [execOp, ex, S]; simp [hr, World.iter])
    (fun v D' M' ⟨it, e1, e2, e3⟩ => by subst e1; subst e2; subst e3; exact next it)
theorem L.nextStr {x : Operand} {it p : Nat} {l : List UInt8} (hd : Nat.blt d n = true) (hx : ev K x = some (.pointer (some ⟨it, 0, none⟩))) (hM : Pull (sit it l p) M N)
    (h1 : ¬ p < l.length → TL none P σ n ops Q rest ((d, .tuple #[.bool false]) :: K) D (sit it l p :: N))
    (h2 : p < l.length → TL none P σ n ops Q rest ((d, .tuple #[.bool true, .int .i64 p, .int .i32 (decF l p).1]) :: K) D (sit it l (p + (decF l p).2) :: N)) :
    TL none P σ n ops Q (⟨some d, .next x true, ty, pos, aft, none⟩ :: rest) K D M :=
  L.valEx hd (fun u D' M' => (¬ p < l.length ∧ u = .tuple #[.bool false] ∧ D' = D ∧ M' = sit it l p :: N) ∨ (p < l.length ∧ u = .tuple #[.bool true, .int .i64 p, .int .i32 (decF l p).1] ∧ D' = D ∧ M' = sit it l (p + (decF l p).2) :: N)) (fun a w s ss => by
    have ex : a.eval x = _ := s.eval hx
    have hs := ss.ent hM
    have hi : w.heap[it]? = some (.stringIter ⟨l.toArray⟩ p) := hs.block (.head _)
    have hsz : (ByteArray.mk l.toArray).size = l.length := rfl
    by_cases hp : p < l.length
    · refine ⟨_, _, _, setB w it (.stringIter ⟨l.toArray⟩ (p + (decF l p).2)), ?_, .inr ⟨hp, rfl, rfl, rfl⟩, hs.setB Upd.here⟩
      have hset := setB_setObj (P := P) (w := w) (b := it) (o := .stringIter ⟨l.toArray⟩ p) (o' := .stringIter ⟨l.toArray⟩ (p + (decF l p).2)) hi (fun _ _ _ => by simp)
      have hn : (Instr.next (.pointer (some ⟨it, 0, none⟩)) true ty).run P w = .ok (.tuple #[.bool true, .int .i64 p, .int .i32 (decF l p).1]) (setB w it (.stringIter ⟨l.toArray⟩ (p + (decF l p).2))) := by
        have hg : (getObj it).run P w = .ok (.stringIter ⟨l.toArray⟩ p) w := by simp [getObj, Sem.run, hi]
        unfold decF at hset ⊢
        simp only [Instr.next, Sem.run_bind, hg, Result.andThen_ok, hsz, hp, if_true, hset]
        rfl
      simp only [execOp, ex]; simp [hn]
    · refine ⟨_, _, _, w, ?_, .inl ⟨hp, rfl, rfl, rfl⟩, hs⟩
      have hn : (Instr.next (.pointer (some ⟨it, 0, none⟩)) true ty).run P w = .ok (.tuple #[.bool false]) w := by
        simp [Instr.next, getObj, Sem.run, hi, hsz, hp]
      simp only [execOp, ex]; simp [hn])
    (fun v D' M' h => by
      rcases h with ⟨h0, e1, e2, e3⟩ | ⟨h0, e1, e2, e3⟩
      · subst e1; subst e2; subst e3; exact h1 h0
      · subst e1; subst e2; subst e3; exact h2 h0)
theorem L.convRune {src dst : TypeId} {x : Operand} {r : Nat} {k : IntKind} (hd : Nat.blt d n = true) (hs : (P.underlying src).isSome = true) (hU : P.underlying dst = some .string) (hx : ev K x = some (.int k (r : Int)))
    (next : ∀ l, EncOf r l → TL m P σ n ops Q rest ((d, S l) :: K) D M) : TL m P σ n ops Q (⟨some d, .convert src dst x, ty, pos, aft, none⟩ :: rest) K D M := by
  obtain ⟨b, hb⟩ : ∃ b, b = Utf8.encode (r : Int) := ⟨_, rfl⟩
  obtain ⟨⟨l⟩⟩ := b
  refine L.pureOp (v := S l) hd (fun ρ w s => ?_) (next l hb)
  have h1 := s hx
  have hr := run_convert_int_string (P := P) w src dst k (r : Int) hs hU
  rw [← hb] at hr
  simp only [execOp, h1]
  rw [Sem.run_bind, hr]
  rfl
end
/-! what stands at a place of a string -/
def okR (r : Nat) : Prop := 128 ≤ r ∧ (r = 65533 ∨ Utf8.valid (r : Int) = true)
theorem get_at {l : List UInt8} {i : Nat} : (ByteArray.mk l.toArray).get! i = l.getD i 0 := by
  show l.toArray[i]! = _
  by_cases h : i < l.length
  · simp [h]
  · simp [h]; rfl
theorem decF_ascii {l : List UInt8} {p : Nat} (h : (l.getD p 0).toNat < 128) : decF l p = ((l.getD p 0).toNat, 1) := by
  unfold decF Utf8.decode
  simp only [Nat.add_zero, get_at, h, if_true]
theorem decF_more {l : List UInt8} {p : Nat} (h : ¬ (l.getD p 0).toNat < 128) : okR (decF l p).1 ∧ 1 ≤ (decF l p).2 ∧ ∀ j, 1 ≤ j → j < (decF l p).2 → p + j < l.length ∧ 128 ≤ (l.getD (p + j) 0).toNat := by
  have herr : okR 65533 ∧ 1 ≤ 1 ∧ ∀ j, 1 ≤ j → j < 1 → p + j < l.length ∧ 128 ≤ (l.getD (p + j) 0).toNat := ⟨⟨by omega, .inl rfl⟩, Nat.le_refl _, fun j h1 h2 => by omega⟩
  have hsz : (ByteArray.mk l.toArray).size = l.length := rfl
  have cont : ∀ k, (decide (p + k < l.length) && (l.getD (p + k) 0).toNat / 64 == 2) = true → p + k < l.length ∧ 128 ≤ (l.getD (p + k) 0).toNat := fun k hk => by
    simp only [Bool.and_eq_true, decide_eq_true_eq, beq_iff_eq] at hk
    exact ⟨hk.1, by omega⟩
  unfold decF Utf8.decode
  simp only [Nat.add_zero, get_at, h, if_false, hsz, Utf8.runeError]
  split
  · rename_i h1
    simp only [Bool.and_eq_true] at h1
    have c1 := cont 1 (by simpa using h1.2)
    split
    · rename_i hc
      refine ⟨⟨by simpa using hc, .inr ?_⟩, by simp, fun j j1 j2 => ?_⟩
      · simp only [Utf8.valid]
        simp; omega
      · obtain rfl : j = 1 := by simp at j2; omega
        exact c1
    · exact herr
  · split
    · rename_i h1
      simp only [Bool.and_eq_true] at h1
      have c1 := cont 1 (by simpa using h1.1.2)
      have c2 := cont 2 (by simpa using h1.2)
      split
      · rename_i hc
        simp only [ge_iff_le, Bool.and_eq_true, decide_eq_true_eq] at hc
        refine ⟨⟨by have := hc.1; simp only; omega, .inr hc.2⟩, by simp, fun j j1 j2 => ?_⟩
        simp at j2
        rcases (show j = 1 ∨ j = 2 by omega) with rfl | rfl
        · exact c1
        · exact c2
      · exact herr
    · split
      · rename_i h1
        simp only [Bool.and_eq_true] at h1
        have c1 := cont 1 (by simpa using h1.1.1.2)
        have c2 := cont 2 (by simpa using h1.1.2)
        have c3 := cont 3 (by simpa using h1.2)
        split
        · rename_i hc
          simp only [ge_iff_le, Bool.and_eq_true, decide_eq_true_eq] at hc
          refine ⟨⟨by have := hc.1; simp only; omega, .inr hc.2⟩, by simp, fun j j1 j2 => ?_⟩
          simp at j2
          rcases (show j = 1 ∨ j = 2 ∨ j = 3 by omega) with rfl | rfl | rfl
          · exact c1
          · exact c2
          · exact c3
        · exact herr
      · exact herr
theorem enc_last {r : Nat} {l : List UInt8} (h : okR r) (hb : EncOf r l) : 2 ≤ l.length ∧ l.length ≤ 4 ∧ 128 ≤ (l.getD (l.length - 1) 0).toNat := by
  have hv : Utf8.valid (r : Int) = true := by
    rcases h.2 with e | q
    · rw [e]; simp [Utf8.valid]
    · exact q
  have hr := h.1
  have hf := encode_facts (r : Int) hv (by omega)
  unfold EncOf at hb
  rw [← hb] at hf
  obtain ⟨h1, h2, h3⟩ := hf
  have hl : (ByteArray.mk l.toArray).size = l.length := rfl
  rw [hl] at h1 h2
  have h4 := h3 (by rw [hl]; omega)
  refine ⟨h1, h2, ?_⟩
  have : l.getD (l.length - 1) 0 = l[l.length - 1]'(by omega) := by simp [List.getD, show l.length - 1 < l.length by omega]
  rw [this]
  exact h4
theorem decF_lt {l : List UInt8} {p : Nat} : (decF l p).1 < 1114112 ∧ 1 ≤ (decF l p).2 := by
  by_cases h : (l.getD p 0).toNat < 128
  · rw [decF_ascii h]; simp only; omega
  · obtain ⟨h1, h2, _⟩ := decF_more h
    refine ⟨?_, h2⟩
    rcases h1.2 with q | q
    · omega
    · simp only [Utf8.valid, Bool.or_eq_true, Bool.and_eq_true, decide_eq_true_eq] at q
      omega
end Cv
namespace Cv
open Go Go.RowKit Go.ChangeShapes Go.WideShapes Go.ChangeAt
section
variable {H : Type} {enc : TypeId × Value → H} {P : Program} {W : World} {base : Nat} {sp : Nat → Bool} {held : Bool}
abbrev ET := Tr × (Option Addr × Nat × Nat)
@[reducible] def eT (z : ET) : List Value := eRow z.1 z.2.1 z.2.2.1 z.2.2.2
variable {tK tS tI tL tE : TypeId} {f0 f1 f2 g0 g1 : Field}
end
end Cv
namespace Cv
open Go
section
variable {P : Program} {σ : World} {n : Nat} {Q : Post} {K : Env} {D M : List Asn} {m : Option (List Asn × List Asn)} {ops : Array Oper} {rest : List Oper} {d : Nat} {ty : TypeId} {pos : String} {aft : Array Edge}
theorem L.strBytes {src dst e : TypeId} {x : Operand} {l : List UInt8} (hd : Nat.blt d n = true) (hs : P.underlying src = some .string) (hU : P.underlying dst = some (.slice e)) (hE : P.underlying e = some (.int .u8)) (hx : ev K x = some (S l))
    (next : ∀ b cap, TL none P σ n ops Q rest ((d, .slice (some ⟨b, 0, none⟩) l.length cap) :: K) (rsl 1 (some ⟨b, 0, none⟩) l.length cap (l.map yr) :: D) M) :
    TL none P σ n ops Q (⟨some d, .convert src dst x, ty, pos, aft, none⟩ :: rest) K D M :=
  L.op rfl (fun _ _ _ _ c hc => by cases hc) fun a w s ss K' hK' => by
    have e1 := s.eval hx
    have hr := run_bytes_of_string (P := P) w src dst e ⟨l.toArray⟩ hs hU hE
    obtain ⟨cap, hcap⟩ : ∃ c, grownCap w (ByteArray.mk l.toArray).size 0 e = c := ⟨_, rfl⟩
    have hge : l.length ≤ cap := by rw [← hcap]; exact grownCap_ge w _ 0 e
    rw [hcap] at hr
    unfold Oper.wp
    have hx' : (execOp a.eval ⟨some d, .convert src dst x, ty, pos, aft, none⟩).run P w = .ok (.value (.slice (some ⟨w.heap.size, 0, none⟩) l.length cap)) (w.drew.alloc (.cells (bytesRow ⟨l.toArray⟩ cap) e ((bytesRow ⟨l.toArray⟩ cap).size, (bytesRow ⟨l.toArray⟩ cap).size + 1))) := by
      simp only [execOp, e1, S]
      rw [Sem.run_bind, hr]
      rfl
    rw [hx']
    have s1 : Sat σ D M w.drew := ss.drew (w.drawn + 1)
    have s2 := (s1.alloc (.cells (bytesRow ⟨l.toArray⟩ cap) e ((bytesRow ⟨l.toArray⟩ cap).size, (bytesRow ⟨l.toArray⟩ cap).size + 1))).freeze.derive (ψ := rsl 1 (some ⟨w.heap.size, 0, none⟩) l.length cap (l.map yr)) mem_head (fun z hz => by
      refine ⟨by simp, hge, fun r hr => ?_, .inr ⟨_, _, _, _, _, rfl, hz, fun i j r v hi hj => ?_⟩⟩
      · obtain ⟨q, _, rfl⟩ := List.mem_map.1 hr; rfl
      · rw [List.getElem?_map] at hi
        cases hl : l[i]? with
        | none => rw [hl] at hi; cases hi
        | some c =>
          rw [hl] at hi
          simp only [Option.map_some, Option.some.injEq] at hi
          subst hi
          cases j with
          | succ j => simp at hj
          | zero =>
            simp only [List.getElem?_cons_zero, Option.some.injEq] at hj
            subst hj
            have hi' : i < l.length := (List.getElem?_eq_some_iff.1 hl).1
            have := bytesRow_at ⟨l.toArray⟩ cap i (by simpa using hi')
            have e2 : l[i] = c := (List.getElem?_eq_some_iff.1 hl).2
            simp only [Nat.mul_one, Nat.add_zero, Nat.zero_add]
            rw [this]
            simp [Y, e2])
    refine hK' _ _ (next w.heap.size cap _ _ (s.put _ hd) (s2.facts fun φ h => ?_))
    rcases List.mem_cons.1 h with q | q
    · subst q; exact mem_head
    · exact mem_tail (mem_tail q)
end
end Cv
namespace Cv
open Go
/-! ## strings.Builder -/
section
variable {P : Program} {σ : World} {n : Nat} {Q : Post} {K : Env} {D M N : List Asn} {m : Option (List Asn × List Asn)} {ops : Array Oper} {rest : List Oper} {d : Nat} {ty : TypeId} {pos : String} {aft : Array Edge}
theorem L.neqPtrSame {tp te : TypeId} {j : TypeInfo} {t' : TypeId} {x y : Operand} {a : Addr} (hd : Nat.blt d n = true) (hp : P.underlying tp = some (.pointer te)) (hte : P.info? te = some j) (hx : ev K x = some (.pointer (some a))) (hy : ev K y = some (.pointer (some a)))
    (next : TL m P σ n ops Q rest ((d, .bool false) :: K) D M) : TL m P σ n ops Q (⟨some d, .binOp .neq tp x y t', ty, pos, aft, none⟩ :: rest) K D M :=
  L.quiet hd (fun ac w s ss => by
    have ex : ac.eval x = _ := s.eval hx
    have ey : ac.eval y = _ := s.eval hy
    simp only [execOp, ex, ey, eqGuard_at_pointer]
    simp [Lib.run_neq_ptr_same w a hp hte]) next
theorem cl_shape {w : World} {b : Nat} {T : TypeId} {cs : List Value} (ss : Sat σ D M w) (h : cl b T cs ∈ M) : w.shape? b = some (T, cs.length) := by
  have := ss.block h
  simp [World.shape?, this]
theorem L.convToU {src dst t T : TypeId} {j : TypeInfo} {x : Operand} {b : Nat} {cs : List Value} (hd : Nat.blt d n = true) (hs : P.underlying src = some (.pointer t)) (hu : P.underlying dst = some .unsafePointer) (ht : P.info? t = some j) (hj : j.size ≠ 0)
    (hx : ev K x = some (.pointer (some ⟨b, 0, none⟩))) (hm : cl b T cs ∈ M) (h0 : 0 < cs.length) (next : TL m P σ n ops Q rest ((d, .pointer (some ⟨b, 0, none⟩)) :: K) D M) : TL m P σ n ops Q (⟨some d, .convert src dst x, ty, pos, aft, none⟩ :: rest) K D M :=
  L.quiet hd (fun ac w s ss => by
    have ex : ac.eval x = _ := s.eval hx
    have := Lib.run_to_unsafe w ⟨b, 0, none⟩ hs hu ht hj (cl_shape ss hm) h0
    simp only [execOp, ex]
    simp [this]) next
theorem L.convFromU {src dst u T : TypeId} {j : TypeInfo} {x : Operand} {b k : Nat} {cs : List Value} (hd : Nat.blt d n = true) (hs : P.underlying src = some .unsafePointer) (hu : P.underlying dst = some (.pointer u)) (ht : P.info? u = some j)
    (hx : ev K x = some (.pointer (some ⟨b, 0, none⟩))) (hm : cl b T cs ∈ M) (hk : cs.length = k) (hl : liesAt P P.depth T (k / P.cellsOf T) 0 u 1 = true) (next : TL m P σ n ops Q rest ((d, .pointer (some ⟨b, 0, none⟩)) :: K) D M) : TL m P σ n ops Q (⟨some d, .convert src dst x, ty, pos, aft, none⟩ :: rest) K D M :=
  L.quiet hd (fun ac w s ss => by
    subst hk
    have ex : ac.eval x = _ := s.eval hx
    have := Lib.run_from_unsafe w ⟨b, 0, none⟩ hs hu ht (cl_shape ss hm) hl
    simp only [execOp, ex]
    simp [this]) next
theorem L.sliceData {t : TypeId} {x : Operand} {b o len cap : Nat} (hd : Nat.blt d n = true) (hc : cap ≠ 0) (hx : ev K x = some (.slice (some ⟨b, o, none⟩) len cap)) (next : TL m P σ n ops Q rest ((d, .pointer (some ⟨b, o, none⟩)) :: K) D M) :
    TL m P σ n ops Q (⟨some d, .call { callee := .builtin .unsafeSliceData, args := #[x], argTypes := #[t] }, ty, pos, aft, none⟩ :: rest) K D M :=
  L.quiet hd (fun ac w s ss => by
    have h1 := s.eval hx
    have := Lib.run_unsafeSliceData_row (P := P) w #[t] ty ⟨b, o, none⟩ len cap hc
    simp only [execOp, resolve, List.map_toArray, h1]
    simp [h1, invoke, builtin, this]) next
theorem liesAt_bytes' {e : TypeId} (hc : P.cellsOf e = 1) (count off k : Nat) (hn : off + k ≤ count) : liesAt P P.depth e count off e k = true := by
  have hd : P.depth = (2 * (P.types.size + Made.depth) + 1) + 1 := rfl
  rw [hd]
  simp only [liesAt, Bool.or_eq_true]
  left
  rw [hd]
  simp [rowAt, hc, hn, sameLayout, Nat.mod_one]
theorem run_unsafeStr {w : World} (pt it ty e : TypeId) (hp : P.underlying pt = some (.pointer e)) (hc : P.cellsOf e = 1) (g o cells : Nat) (hsh : w.shape? g = some (e, cells)) (l : List UInt8) (h0 : l ≠ []) (hn : o + l.length ≤ cells) (h63 : l.length ≤ 9223372036854775807)
    (hcell : ∀ j x, l[j]? = some x → w.cell? ((⟨g, o, none⟩ : Addr).add j) = some (.int .u8 x.toNat)) :
    (Builtin.unsafeString_ #[pt, it] ty #[.pointer (some ⟨g, o, none⟩), .int .i64 l.length]).run P w = .ok (.string ⟨l.toArray⟩) (w.freeze ⟨g, o, none⟩ l.length) := by
  have hl : l.length ≠ 0 := by simpa using h0
  have hlb := Lib.run_loadBytes (P := P) w l ⟨g, o, none⟩ .empty hcell
  have hlies := liesAt_bytes' (P := P) hc (cells / P.cellsOf e) o l.length (by rw [hc]; simpa using hn)
  have h63' : ¬ (9223372036854775807 : Int) < (l.length : Int) := by omega
  have hdef : Builtin.unsafeString_ #[pt, it] ty #[.pointer (some ⟨g, o, none⟩), .int .i64 l.length] =
      (do
        let n ← asInt (.int .i64 l.length)
        if n < 0 then runtimePanic (.error "unsafe.String: len out of range")
        if n > IntKind.i64.max then unsupported (.unsafePointer "String: a length above the largest int")
        if n = 0 then pure (.string .empty)
        else if ← variablesAt ⟨g, o, none⟩ (← elemOf pt) n.toNat then do
          let s ← loadBytes ⟨g, o, none⟩ .empty n.toNat
          freeze ⟨g, o, none⟩ n.toNat
          pure (.string s)
        else unsupported (.unsafePointer "String: not so many bytes at ptr")) := rfl
  rw [hdef]
  have hmax : IntKind.i64.max = 9223372036854775807 := rfl
  have hneg : ¬ (l.length : Int) < 0 := by omega
  simp [asInt, asIntOf, hmax, h63', hneg, hl, variablesAt, hsh, elemOf, run_underlying hp, hlies, hlb]
theorem L.unsafeStr {tp it e : TypeId} {x y : Operand} {b o len cap : Nat} {l : List UInt8} (hd : Nat.blt d n = true) (hp : P.underlying tp = some (.pointer e)) (hc : P.cellsOf e = 1) (hx : ev K x = some (.pointer (some ⟨b, o, none⟩))) (hy : ev K y = some (.int .i64 len)) (h0 : l ≠ []) (h63 : len ≤ 9223372036854775807)
    (hM : Pull (own 1 e (some ⟨b, o, none⟩) len cap (l.map yr)) M N) (next : TL none P σ n ops Q rest ((d, S l) :: K) D N) :
    TL none P σ n ops Q (⟨some d, .call { callee := .builtin .unsafeString, args := #[x, y], argTypes := #[tp, it] }, ty, pos, aft, none⟩ :: rest) K D M :=
  L.valEx hd (fun v D' M' => v = S l ∧ D' = D ∧ M' = N) (fun ac w s ss => by
    have ss2 : Sat σ D ((fun h => ∃ cs : Array Value, h b = some (.cells cs e (0, 0)) ∧ l.length = len ∧ len ≤ cap ∧ o + cap * 1 ≤ cs.size ∧ RowsAt 1 (l.map yr) cs o) :: N) w := (ss.ent hM).ent (Ent.imp fun h H => by
      obtain ⟨q1, q2, q3, q4⟩ := H
      rw [List.length_map] at q1
      rcases q4 with ⟨e0, _⟩ | ⟨b', o', cs, e1, e2, e3, e4⟩
      · cases e0
      · cases e1
        exact ⟨cs, e2, q1, q2, e3, e4⟩)
    obtain ⟨cs, ss3⟩ := ss2.ex
    obtain ⟨q1, q2, e3, e4⟩ := ss3.pure (fun k h => h.2)
    subst q1
    have ss4 : Sat σ D (pt b (.cells cs e (0, 0)) :: N) w := ss3.ent (Ent.imp fun k h => h.1)
    have hb := ss4.block (.head _)
    have hr := run_unsafeStr (P := P) (w := w) tp it ty e hp hc b o cs.size (by simp [World.shape?, hb]) l h0 (by omega) h63 (fun j u hj => by
      rw [add_lit, cell_of hb]
      have := e4 j 0 (yr u) (Y u) (by simp [hj]) rfl
      simpa [Y] using this)
    have h1 : ac.eval x = _ := s.eval hx
    have h2 : ac.eval y = _ := s.eval hy
    refine ⟨S l, D, N, w.freeze ⟨b, o, none⟩ l.length, ?_, ⟨rfl, rfl, rfl⟩, ?_⟩
    · simp only [execOp, resolve]
      simp [h1, h2, invoke, builtin, hr, S]
    · have hl : l.length ≠ 0 := by simpa using h0
      have hf : w.freeze ⟨b, o, none⟩ l.length = setB w b (.cells cs e (o, o + l.length)) := by
        unfold World.freeze setB
        rw [if_neg hl]
        congr 1
        apply Array.ext_getElem?
        intro i
        rw [Array.getElem?_modify, Array.getElem?_setIfInBounds]
        by_cases hi : b = i
        · subst hi
          have hlt : b < w.heap.size := (Array.getElem?_eq_some_iff.1 hb).1
          rw [if_pos rfl, if_pos rfl, if_pos hlt, hb]
          simp
        · rw [if_neg hi, if_neg hi]
      rw [hf]
      exact (ss4.setB (o' := .cells cs e (o, o + l.length)) .here).ent (Ent.skip (.refl _))) (fun v D' M' ⟨e1, e2, e3⟩ => by subst e1; subst e2; subst e3; exact next)
def bldA (t e b : Nat) (bs : List UInt8) : Asn := fun h => ∃ q : Option Addr × Option Addr × Nat, (q.1 = none ∨ q.1 = some ⟨b, 0, none⟩) ∧ Holds [cl b t [.pointer q.1, .slice q.2.1 bs.length q.2.2], own 1 e q.2.1 bs.length q.2.2 (bs.map yr)] h
variable {G : Act → World → Prop}
theorem T.bldOpen {t e b : Nat} {bs : List UInt8} (hM : Pull (bldA t e b bs) M N) (next : ∀ p a cap, (p = none ∨ p = some ⟨b, 0, none⟩) → T σ n G K D (cl b t [.pointer p, .slice a bs.length cap] :: own 1 e a bs.length cap (bs.map yr) :: N)) : T σ n G K D M := fun ac w s t0 => by
  have t1 := t0.ent hM
  obtain ⟨q, t2⟩ := t1.ex
  have q1 := t2.pure (fun k h => h.1)
  have t3 : Sat σ D (all [cl b t [.pointer q.1, .slice q.2.1 bs.length q.2.2], own 1 e q.2.1 bs.length q.2.2 (bs.map yr)] :: N) w := t2.ent (Ent.imp fun k h => h.2)
  exact next q.1 q.2.1 q.2.2 q1 ac w s (t3.ent Ent.unfold)
theorem T.bldMk {t e b len cap : Nat} {p a : Option Addr} {bs : List UInt8} (hp : p = none ∨ p = some ⟨b, 0, none⟩) (hl : bs.length = len) (hM : Sel [cl b t [.pointer p, .slice a len cap], own 1 e a len cap (bs.map yr)] M N) (next : T σ n G K D (bldA t e b bs :: N)) : T σ n G K D M := fun ac w s t0 => by
  subst hl
  exact next ac w s ((t0.ent (hM.trans Ent.fold)).ent (Ent.imp fun k H => ⟨(p, a, cap), hp, H⟩))
theorem L.bldOpen {t e b : Nat} {bs : List UInt8} (hM : Pull (bldA t e b bs) M N) (next : ∀ p a cap, (p = none ∨ p = some ⟨b, 0, none⟩) → TL none P σ n ops Q rest K D (cl b t [.pointer p, .slice a bs.length cap] :: own 1 e a bs.length cap (bs.map yr) :: N)) : TL none P σ n ops Q rest K D M := T.bldOpen hM next
theorem L.bldMk {t e b len cap : Nat} {p a : Option Addr} {bs : List UInt8} (hp : p = none ∨ p = some ⟨b, 0, none⟩) (hl : bs.length = len) (hM : Sel [cl b t [.pointer p, .slice a len cap], own 1 e a len cap (bs.map yr)] M N) (next : TL none P σ n ops Q rest K D (bldA t e b bs :: N)) : TL none P σ n ops Q rest K D M := T.bldMk hp hl hM next
end
end Cv
namespace Cv
open Go
abbrev W32 := BitVec 32
def rotr (x : W32) (n : Nat) : W32 := (x <<< (32 - n)) ||| (x >>> n)
theorem rot_s {n : Nat} (h : 1 ≤ n) (k : n ≤ 31) : bitsAnd .u64 (IntKind.u64.wrap (-(n : Int))) 31 = ((32 - n : Nat) : Int) := by
  have : ∀ i : Fin 32, 1 ≤ i.val → bitsAnd .u64 (IntKind.u64.wrap (-(i.val : Int))) 31 = ((32 - i.val : Nat) : Int) := by decide +kernel
  exact this ⟨n, by omega⟩ h
def ks : List W32 := [0x428a2f98#32, 0x71374491#32, 0xb5c0fbcf#32, 0xe9b5dba5#32, 0x3956c25b#32, 0x59f111f1#32, 0x923f82a4#32, 0xab1c5ed5#32,
  0xd807aa98#32, 0x12835b01#32, 0x243185be#32, 0x550c7dc3#32, 0x72be5d74#32, 0x80deb1fe#32, 0x9bdc06a7#32, 0xc19bf174#32,
  0xe49b69c1#32, 0xefbe4786#32, 0x0fc19dc6#32, 0x240ca1cc#32, 0x2de92c6f#32, 0x4a7484aa#32, 0x5cb0a9dc#32, 0x76f988da#32,
  0x983e5152#32, 0xa831c66d#32, 0xb00327c8#32, 0xbf597fc7#32, 0xc6e00bf3#32, 0xd5a79147#32, 0x06ca6351#32, 0x14292967#32,
  0x27b70a85#32, 0x2e1b2138#32, 0x4d2c6dfc#32, 0x53380d13#32, 0x650a7354#32, 0x766a0abb#32, 0x81c2c92e#32, 0x92722c85#32,
  0xa2bfe8a1#32, 0xa81a664b#32, 0xc24b8b70#32, 0xc76c51a3#32, 0xd192e819#32, 0xd6990624#32, 0xf40e3585#32, 0x106aa070#32,
  0x19a4c116#32, 0x1e376c08#32, 0x2748774c#32, 0x34b0bcb5#32, 0x391c0cb3#32, 0x4ed8aa4a#32, 0x5b9cca4f#32, 0x682e6ff3#32,
  0x748f82ee#32, 0x78a5636f#32, 0x84c87814#32, 0x8cc70208#32, 0x90befffa#32, 0xa4506ceb#32, 0xbef9a3f7#32, 0xc67178f2#32]
def iv0 : List W32 := [0x6a09e667#32, 0xbb67ae85#32, 0x3c6ef372#32, 0xa54ff53a#32, 0x510e527f#32, 0x9b05688c#32, 0x1f83d9ab#32, 0x5be0cd19#32]
def nx (ws : List W32) (k : Nat) : W32 := gd ws (k - 16) + gd ws (k - 7) + (rotr (gd ws (k - 15)) 7 ^^^ rotr (gd ws (k - 15)) 18 ^^^ (gd ws (k - 15) >>> 3)) + (rotr (gd ws (k - 2)) 17 ^^^ rotr (gd ws (k - 2)) 19 ^^^ (gd ws (k - 2) >>> 10))
def byteIn (w : W32) (c : UInt8) : W32 := (w <<< 8) ||| BitVec.ofNat 32 c.toNat
def acc (b : List UInt8) (k : Nat) (x : W32) (j : Nat) : W32 := ((b.drop (4 * k)).take j).foldl byteIn x
def spr (b : List UInt8) : Nat → List W32
  | 0 => List.replicate 64 0
  | k + 1 => (spr b k).set k (if k < 16 then acc b k (gd (spr b k) k) 4 else nx (spr b k) k)
theorem spr_len (b : List UInt8) : ∀ k, (spr b k).length = 64
  | 0 => by simp [spr]
  | k + 1 => by simp [spr, spr_len b k]
theorem acc_0 {b : List UInt8} {k : Nat} {x : W32} : acc b k x 0 = x := by simp [acc]
theorem acc_s {b : List UInt8} {k j : Nat} {x : W32} (h : 4 * k + j < b.length) : acc b k x (j + 1) = byteIn (acc b k x j) (gd b (4 * k + j)) := by
  have h1 : j < (b.drop (4 * k)).length := by simp; omega
  have e : (b.drop (4 * k)).take (j + 1) = (b.drop (4 * k)).take j ++ [gd b (4 * k + j)] := by
    rw [List.take_succ_eq_append_getElem h1]
    congr 2
    simp [gd, List.getElem_drop, show 4 * k + j < b.length by omega]
  simp [acc, e]
def rstep (v : List W32) (k w : W32) : List W32 :=
  match v with
  | [a, b, c, d, e, f, g, h] =>
    let t := h + k + w + (rotr e 6 ^^^ rotr e 11 ^^^ rotr e 25) + ((e &&& f) ||| (~~~ e &&& g))
    let u := (rotr a 2 ^^^ rotr a 13 ^^^ rotr a 22) + ((a &&& (b ||| c)) ||| (b &&& c))
    [t + u, a, b, c, d + t, e, f, g]
  | l => l
def rnds (h ws : List W32) : Nat → List W32
  | 0 => h
  | k + 1 => rstep (rnds h ws k) (gd ks k) (gd ws k)
theorem rstep_len {v : List W32} {k w : W32} (h : v.length = 8) : (rstep v k w).length = 8 := by
  obtain ⟨a, b, c, d, e, f, g, i, rfl⟩ := len8 h
  rfl
theorem rnds_len {h ws : List W32} (hl : h.length = 8) : ∀ k, (rnds h ws k).length = 8
  | 0 => hl
  | k + 1 => rstep_len (rnds_len hl k)
def addS (h v : List W32) : Nat → List W32
  | 0 => h
  | k + 1 => (addS h v k).set k (gd (addS h v k) k + gd v k)
theorem addS_len (h v : List W32) : ∀ k, (addS h v k).length = h.length
  | 0 => rfl
  | k + 1 => by simp [addS, addS_len h v k]
def blockF (h : List W32) (b : List UInt8) : List W32 := addS h (rnds h (spr b 64) 64) 8
theorem blockF_len {h : List W32} {b : List UInt8} : (blockF h b).length = h.length := addS_len _ _ _
end Cv
namespace Cv
open Go
def eat (h : List W32) (p : List UInt8) : List W32 × List UInt8 := if 64 ≤ p.length then eat (blockF h (p.take 64)) (p.drop 64) else (h, p)
termination_by p.length
theorem eat_ge {h : List W32} {p : List UInt8} (hp : 64 ≤ p.length) : eat h p = eat (blockF h (p.take 64)) (p.drop 64) := by rw [eat, if_pos hp]
theorem eat_lt {h : List W32} {p : List UInt8} (hp : p.length < 64) : eat h p = (h, p) := by rw [eat, if_neg (by omega)]
theorem eat_len {h : List W32} {p : List UInt8} (hl : h.length = 8) : (eat h p).1.length = 8 ∧ (eat h p).2.length < 64 ∧ (eat h p).2.length ≤ p.length := by
  induction h, p using eat.induct with
  | case1 h p hp ih =>
    rw [eat_ge hp]
    have := ih (by rw [blockF_len]; exact hl)
    refine ⟨this.1, this.2.1, ?_⟩
    have h2 := this.2.2
    rw [List.length_drop] at h2
    omega
  | case2 h p hp => rw [eat_lt (by omega)]; exact ⟨hl, by simp only; omega, Nat.le_refl _⟩
theorem eat_append {h : List W32} {p l : List UInt8} : eat h (p ++ l) = eat (eat h p).1 ((eat h p).2 ++ l) := by
  induction h, p using eat.induct with
  | case1 h p hp ih =>
    rw [eat_ge (by simp; omega), List.take_append_of_le_length hp, List.drop_append_of_le_length hp, ih, ← eat_ge hp]
  | case2 h p hp => rw [eat_lt (h := h) (p := p) (by omega)]
def shH (m : List UInt8) : List W32 := (eat iv0 m).1
def shP (m : List UInt8) : List UInt8 := (eat iv0 m).2
theorem sh_len (m : List UInt8) : (shH m).length = 8 ∧ (shP m).length < 64 ∧ (shP m).length ≤ m.length := eat_len rfl
theorem sh_append (m l : List UInt8) : eat (shH m) (shP m ++ l) = (shH (m ++ l), shP (m ++ l)) := eat_append.symm
def zn (k : Nat) : Nat := if k ≤ 55 then 55 - k else 119 - k
def lb (n : Int) (j : Nat) : UInt8 := UInt8.ofNat ((n * 8).fdiv (2 ^ (min (8 * (7 - (j : Int))).toNat 64)) % 256).toNat
def lenb (n : Int) : Nat → List UInt8
  | 0 => []
  | j + 1 => lenb n j ++ [lb n j]
theorem lenb_len (n : Int) : ∀ j, (lenb n j).length = j
  | 0 => rfl
  | j + 1 => by simp [lenb, lenb_len n j]
def padded (m : List UInt8) (j : Nat) : List UInt8 := shP m ++ [128] ++ List.replicate j 0
def padF (m : List UInt8) : List UInt8 := padded m (zn (shP m).length) ++ lenb m.length 8
theorem padF_len (m : List UInt8) : (padF m).length % 64 = 0 := by
  have h := (sh_len m).2.1
  simp only [padF, padded, List.length_append, List.length_replicate, lenb_len, List.length_singleton, zn]
  split <;> omega
def ob (h : List W32) (i : Nat) : UInt8 := UInt8.ofNat ((gd h (i / 4)) >>> (24 - 8 * (i % 4))).toNat
def outF (h : List W32) : Nat → List UInt8
  | 0 => List.replicate 32 0
  | i + 1 => (outF h i).set i (ob h i)
theorem outF_len (h : List W32) : ∀ i, (outF h i).length = 32
  | 0 => by simp [outF]
  | i + 1 => by simp [outF, outF_len h i]
def digest (m : List UInt8) : List UInt8 := outF (eat (shH m) (padF m)).1 32
theorem digest_len (m : List UInt8) : (digest m).length = 32 := outF_len _ _
end Cv
namespace Cv
open Go
@[reducible] def ys (l : List UInt8) : List Value := [S l]
theorem take_flat_s {α : Type} {ls : List (List α)} {k : Nat} (h : k < ls.length) : (ls.take (k + 1)).flatten = (ls.take k).flatten ++ gd ls k := by
  rw [List.take_succ_eq_append_getElem h, List.flatten_append]
  simp only [List.flatten_cons, List.flatten_nil, List.append_nil]
  congr 1
  simp [gd, h]
theorem take_flat_le {α : Type} (ls : List (List α)) (k : Nat) : (ls.take k).flatten.length ≤ ls.flatten.length := by
  have : ls.flatten = (ls.take k).flatten ++ (ls.drop k).flatten := by rw [← List.flatten_append, List.take_append_drop]
  rw [this, List.length_append]; omega
theorem shH_nil : shH [] = iv0 := by unfold shH; rw [eat_lt (by simp)]
theorem shP_nil : shP [] = [] := by unfold shP; rw [eat_lt (by simp)]
def nb (n : Int) (j : Nat) : UInt8 := UInt8.ofNat (n.fdiv (2 ^ (min (8 * (3 - (j : Int))).toNat 64)) % 256).toNat
def nbs (n : Int) : Nat → List UInt8
  | 0 => []
  | j + 1 => nbs n j ++ [nb n j]
theorem nbs_len (n : Int) : ∀ j, (nbs n j).length = j
  | 0 => rfl
  | j + 1 => by simp [nbs, nbs_len n j]
def kb (kind : Int) : UInt8 := UInt8.ofNat (kind % 256).toNat
def oidHead (kind : Int) (n : Nat) : List UInt8 := [99, 114, 118, kb kind] ++ nbs n 4
def oidF (kind : Int) (t : List UInt8) : List UInt8 := digest (oidHead kind t.length ++ t)
theorem oidF_len (kind : Int) (t : List UInt8) : (oidF kind t).length = 32 := digest_len _
end Cv
namespace Cv
theorem zn_iff {k j : Nat} (hk : k < 64) (hj : j ≤ zn k) : (k + 1 + j) % 64 = 56 ↔ j = zn k := by
  by_cases h : k ≤ 55
  · have e : zn k = 55 - k := if_pos h
    omega
  · have e : zn k = 119 - k := if_neg h
    omega
theorem zn_le {k : Nat} : zn k ≤ 119 := by unfold zn; split <;> omega
end Cv
namespace Cv
end Cv
namespace Cv
open Go
@[reducible] def wr (x : W32) : List Value := [W x]
theorem One.wr {l : List W32} : ∀ u ∈ (l.map wr).flatten, u.oneCell' = true := by
  intro u hu
  obtain ⟨r, hr, hu⟩ := List.mem_flatten.1 hu
  obtain ⟨x, _, rfl⟩ := List.mem_map.1 hr
  simp only [Cv.wr, List.mem_singleton] at hu
  subst hu; rfl
section
variable {P : Program} {σ : World} {n : Nat} {Q : Post} {K : Env} {D M : List Asn} {m : Option (List Asn × List Asn)} {ops : Array Oper} {rest : List Oper} {d : Nat} {ty : TypeId} {pos : String} {aft : Array Edge} {x y : Operand} {t t' : TypeId} {a b : BitVec 32}
end
/-! ## the reference's words -/
/-! ## the schedule -/
/-! ## the sum of the words -/
end Cv
namespace Cv
end Cv
namespace Cv
end Cv
namespace Cv
end Cv
namespace Cv
open Go
section
variable {P : Program} {σ : World} {n : Nat} {Q : Post} {K : Env} {D M N : List Asn} {m : Option (List Asn × List Asn)} {ops : Array Oper} {rest : List Oper} {d : Nat} {ty : TypeId} {pos : String} {aft : Array Edge}
/-! ## a builder within another value -/
theorem L.convToUo {src dst t T : TypeId} {j : TypeInfo} {x : Operand} {b o : Nat} {cs : List Value} (hd : Nat.blt d n = true) (hs : P.underlying src = some (.pointer t)) (hu : P.underlying dst = some .unsafePointer) (ht : P.info? t = some j) (hj : j.size ≠ 0)
    (hx : ev K x = some (.pointer (some ⟨b, o, none⟩))) (hm : cl b T cs ∈ M) (h0 : o < cs.length) (next : TL m P σ n ops Q rest ((d, .pointer (some ⟨b, o, none⟩)) :: K) D M) : TL m P σ n ops Q (⟨some d, .convert src dst x, ty, pos, aft, none⟩ :: rest) K D M :=
  L.quiet hd (fun ac w s ss => by
    have ex : ac.eval x = _ := s.eval hx
    have := Lib.run_to_unsafe w ⟨b, o, none⟩ hs hu ht hj (cl_shape ss hm) h0
    simp only [execOp, ex]
    simp [this]) next
theorem L.convFromUo {src dst u T : TypeId} {j : TypeInfo} {x : Operand} {b o k : Nat} {cs : List Value} (hd : Nat.blt d n = true) (hs : P.underlying src = some .unsafePointer) (hu : P.underlying dst = some (.pointer u)) (ht : P.info? u = some j)
    (hx : ev K x = some (.pointer (some ⟨b, o, none⟩))) (hm : cl b T cs ∈ M) (hk : cs.length = k) (hl : liesAt P P.depth T (k / P.cellsOf T) o u 1 = true) (next : TL m P σ n ops Q rest ((d, .pointer (some ⟨b, o, none⟩)) :: K) D M) : TL m P σ n ops Q (⟨some d, .convert src dst x, ty, pos, aft, none⟩ :: rest) K D M :=
  L.quiet hd (fun ac w s ss => by
    subst hk
    have ex : ac.eval x = _ := s.eval hx
    have := Lib.run_from_unsafe w ⟨b, o, none⟩ hs hu ht (cl_shape ss hm) hl
    simp only [execOp, ex]
    simp [this]) next
end
end Cv
