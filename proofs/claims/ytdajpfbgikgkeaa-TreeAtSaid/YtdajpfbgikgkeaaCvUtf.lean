/-
  My own library for walks, a text of it (CvUtf): separation logic over the kit's Calls; no statement of this seat stands here.
-/
import Derived.Test.YtdajpfbgikgkeaaCvTree
import Derived.Laws.RangeString
import Derived.Laws.Runes
import Derived.Scope
set_option linter.unusedVariables false
set_option linter.unusedSimpArgs false
set_option linter.unusedSectionVars false
namespace Cv
open Go
/-! ## a string's signs, one by one -/
def sit (b : Nat) (l : List UInt8) (pos : Nat) : Asn := pt b (.stringIter ⟨l.toArray⟩ pos)
def decF (l : List UInt8) (pos : Nat) : Nat × Nat := Utf8.decode ⟨l.toArray⟩ pos
def EncOf (r : Nat) (l : List UInt8) : Prop := ByteArray.mk l.toArray = Utf8.encode (r : Int)
section
variable {P : Program} {σ : World} {n : Nat} {Q : Post} {K : Env} {D M N : List Asn} {m : Option (List Asn × List Asn)} {ops : Array Oper} {rest : List Oper} {d : Nat} {ty : TypeId} {pos : String} {aft : Array Edge}
theorem T.scope {c : Code} (h : T σ n (c.wp P (Exit.noGoto Q)) K D M) : T σ n ((Code.scope c).wp P Q) K D M := fun a w s t => wp_scope_straight (h a w s t)
theorem T.scN (h : T σ n (Q .normal) K D M) : T σ n (Exit.noGoto Q .normal) K D M := h
theorem T.scX {id : Nat} (h : T σ n (Q (.exit id)) K D M) : T σ n (Exit.noGoto Q (.exit id)) K D M := h
theorem T.scR (h : T σ n (Q .ret) K D M) : T σ n (Exit.noGoto Q .ret) K D M := h
theorem L.rangeStr {t : TypeId} {x : Operand} {l : List UInt8} (hd : Nat.blt d n = true) (hU : P.underlying t = some .string) (hx : ev K x = some (S l))
    (next : ∀ it, TL none P σ n ops Q rest ((d, .pointer (some ⟨it, 0, none⟩)) :: K) D (sit it l 0 :: M)) : TL none P σ n ops Q (⟨some d, .range t x, ty, pos, aft, none⟩ :: rest) K D M :=
  L.valEx hd (fun v D' M' => ∃ it, v = .pointer (some ⟨it, 0, none⟩) ∧ D' = D ∧ M' = sit it l 0 :: M) (fun a w s ss => by
    have ex : a.eval x = _ := s.eval hx
    have hr := run_range_string (P := P) w t ⟨l.toArray⟩ hU
    refine ⟨_, _, _, w.alloc (.stringIter ⟨l.toArray⟩ 0), ?_, ⟨w.heap.size, rfl, rfl, rfl⟩, ss.alloc _⟩
    simp only [execOp, ex, S]; simp [hr, World.iter])
    (fun v D' M' ⟨it, e1, e2, e3⟩ => by subst e1; subst e2; subst e3; exact next it)
theorem L.nextStr {x : Operand} {it p : Nat} {l : List UInt8} (hd : Nat.blt d n = true) (hx : ev K x = some (.pointer (some ⟨it, 0, none⟩))) (hM : Pull (sit it l p) M N)
    (h1 : ¬ p < l.length → TL none P σ n ops Q rest ((d, .tuple #[.bool false]) :: K) D (sit it l p :: N))
    (h2 : p < l.length → TL none P σ n ops Q rest ((d, .tuple #[.bool true, .int .i64 p, .int .i32 (decF l p).1]) :: K) D (sit it l (p + (decF l p).2) :: N)) :
    TL none P σ n ops Q (⟨some d, .next x true, ty, pos, aft, none⟩ :: rest) K D M :=
  L.valEx hd (fun u D' M' => (¬ p < l.length ∧ u = .tuple #[.bool false] ∧ D' = D ∧ M' = sit it l p :: N) ∨ (p < l.length ∧ u = .tuple #[.bool true, .int .i64 p, .int .i32 (decF l p).1] ∧ D' = D ∧ M' = sit it l (p + (decF l p).2) :: N)) (fun a w s ss => by
    have ex : a.eval x = _ := s.eval hx
    have hs := ss.ent hM
    have hi : w.heap[it]? = some (.stringIter ⟨l.toArray⟩ p) := hs.block (.head _)
    have hsz : (ByteArray.mk l.toArray).size = l.length := rfl
    by_cases hp : p < l.length
    · refine ⟨_, _, _, setB w it (.stringIter ⟨l.toArray⟩ (p + (decF l p).2)), ?_, .inr ⟨hp, rfl, rfl, rfl⟩, hs.setB Upd.here⟩
      have hset := setB_setObj (P := P) (w := w) (b := it) (o := .stringIter ⟨l.toArray⟩ p) (o' := .stringIter ⟨l.toArray⟩ (p + (decF l p).2)) hi (fun _ _ _ => by simp)
      have hn : (Instr.next (.pointer (some ⟨it, 0, none⟩)) true ty).run P w = .ok (.tuple #[.bool true, .int .i64 p, .int .i32 (decF l p).1]) (setB w it (.stringIter ⟨l.toArray⟩ (p + (decF l p).2))) := by
        have hg : (getObj it).run P w = .ok (.stringIter ⟨l.toArray⟩ p) w := by simp [getObj, Sem.run, hi]
        unfold decF at hset ⊢
        simp only [Instr.next, Sem.run_bind, hg, Result.andThen_ok, hsz, hp, if_true, hset]
        rfl
      simp only [execOp, ex]; simp [hn]
    · refine ⟨_, _, _, w, ?_, .inl ⟨hp, rfl, rfl, rfl⟩, hs⟩
      have hn : (Instr.next (.pointer (some ⟨it, 0, none⟩)) true ty).run P w = .ok (.tuple #[.bool false]) w := by
        simp [Instr.next, getObj, Sem.run, hi, hsz, hp]
      simp only [execOp, ex]; simp [hn])
    (fun v D' M' h => by
      rcases h with ⟨h0, e1, e2, e3⟩ | ⟨h0, e1, e2, e3⟩
      · subst e1; subst e2; subst e3; exact h1 h0
      · subst e1; subst e2; subst e3; exact h2 h0)
theorem L.convRune {src dst : TypeId} {x : Operand} {r : Nat} {k : IntKind} (hd : Nat.blt d n = true) (hs : (P.underlying src).isSome = true) (hU : P.underlying dst = some .string) (hx : ev K x = some (.int k (r : Int)))
    (next : ∀ l, EncOf r l → TL m P σ n ops Q rest ((d, S l) :: K) D M) : TL m P σ n ops Q (⟨some d, .convert src dst x, ty, pos, aft, none⟩ :: rest) K D M := by
  obtain ⟨b, hb⟩ : ∃ b, b = Utf8.encode (r : Int) := ⟨_, rfl⟩
  obtain ⟨⟨l⟩⟩ := b
  refine L.pureOp (v := S l) hd (fun ρ w s => ?_) (next l hb)
  have h1 := s hx
  have hr := run_convert_int_string (P := P) w src dst k (r : Int) hs hU
  rw [← hb] at hr
  simp only [execOp, h1]
  rw [Sem.run_bind, hr]
  rfl
end
/-! what stands at a place of a string -/
def okR (r : Nat) : Prop := 128 ≤ r ∧ (r = 65533 ∨ Utf8.valid (r : Int) = true)
theorem get_at {l : List UInt8} {i : Nat} : (ByteArray.mk l.toArray).get! i = l.getD i 0 := by
  show l.toArray[i]! = _
  by_cases h : i < l.length
  · simp [h]
  · simp [h]; rfl
theorem decF_ascii {l : List UInt8} {p : Nat} (h : (l.getD p 0).toNat < 128) : decF l p = ((l.getD p 0).toNat, 1) := by
  unfold decF Utf8.decode
  simp only [Nat.add_zero, get_at, h, if_true]
theorem decF_more {l : List UInt8} {p : Nat} (h : ¬ (l.getD p 0).toNat < 128) : okR (decF l p).1 ∧ 1 ≤ (decF l p).2 ∧ ∀ j, 1 ≤ j → j < (decF l p).2 → p + j < l.length ∧ 128 ≤ (l.getD (p + j) 0).toNat := by
  have herr : okR 65533 ∧ 1 ≤ 1 ∧ ∀ j, 1 ≤ j → j < 1 → p + j < l.length ∧ 128 ≤ (l.getD (p + j) 0).toNat := ⟨⟨by omega, .inl rfl⟩, Nat.le_refl _, fun j h1 h2 => by omega⟩
  have hsz : (ByteArray.mk l.toArray).size = l.length := rfl
  have cont : ∀ k, (decide (p + k < l.length) && (l.getD (p + k) 0).toNat / 64 == 2) = true → p + k < l.length ∧ 128 ≤ (l.getD (p + k) 0).toNat := fun k hk => by
    simp only [Bool.and_eq_true, decide_eq_true_eq, beq_iff_eq] at hk
    exact ⟨hk.1, by omega⟩
  unfold decF Utf8.decode
  simp only [Nat.add_zero, get_at, h, if_false, hsz, Utf8.runeError]
  split
  · rename_i h1
    simp only [Bool.and_eq_true] at h1
    have c1 := cont 1 (by simpa using h1.2)
    split
    · rename_i hc
      refine ⟨⟨by simpa using hc, .inr ?_⟩, by simp, fun j j1 j2 => ?_⟩
      · simp only [Utf8.valid]
        simp; omega
      · obtain rfl : j = 1 := by simp at j2; omega
        exact c1
    · exact herr
  · split
    · rename_i h1
      simp only [Bool.and_eq_true] at h1
      have c1 := cont 1 (by simpa using h1.1.2)
      have c2 := cont 2 (by simpa using h1.2)
      split
      · rename_i hc
        simp only [ge_iff_le, Bool.and_eq_true, decide_eq_true_eq] at hc
        refine ⟨⟨by have := hc.1; simp only; omega, .inr hc.2⟩, by simp, fun j j1 j2 => ?_⟩
        simp at j2
        rcases (show j = 1 ∨ j = 2 by omega) with rfl | rfl
        · exact c1
        · exact c2
      · exact herr
    · split
      · rename_i h1
        simp only [Bool.and_eq_true] at h1
        have c1 := cont 1 (by simpa using h1.1.1.2)
        have c2 := cont 2 (by simpa using h1.1.2)
        have c3 := cont 3 (by simpa using h1.2)
        split
        · rename_i hc
          simp only [ge_iff_le, Bool.and_eq_true, decide_eq_true_eq] at hc
          refine ⟨⟨by have := hc.1; simp only; omega, .inr hc.2⟩, by simp, fun j j1 j2 => ?_⟩
          simp at j2
          rcases (show j = 1 ∨ j = 2 ∨ j = 3 by omega) with rfl | rfl | rfl
          · exact c1
          · exact c2
          · exact c3
        · exact herr
      · exact herr
theorem enc_last {r : Nat} {l : List UInt8} (h : okR r) (hb : EncOf r l) : 2 ≤ l.length ∧ l.length ≤ 4 ∧ 128 ≤ (l.getD (l.length - 1) 0).toNat := by
  have hv : Utf8.valid (r : Int) = true := by
    rcases h.2 with e | q
    · rw [e]; simp [Utf8.valid]
    · exact q
  have hr := h.1
  have hf := encode_facts (r : Int) hv (by omega)
  unfold EncOf at hb
  rw [← hb] at hf
  obtain ⟨h1, h2, h3⟩ := hf
  have hl : (ByteArray.mk l.toArray).size = l.length := rfl
  rw [hl] at h1 h2
  have h4 := h3 (by rw [hl]; omega)
  refine ⟨h1, h2, ?_⟩
  have : l.getD (l.length - 1) 0 = l[l.length - 1]'(by omega) := by simp [List.getD, show l.length - 1 < l.length by omega]
  rw [this]
  exact h4
theorem decF_lt {l : List UInt8} {p : Nat} : (decF l p).1 < 1114112 ∧ 1 ≤ (decF l p).2 := by
  by_cases h : (l.getD p 0).toNat < 128
  · rw [decF_ascii h]; simp only; omega
  · obtain ⟨h1, h2, _⟩ := decF_more h
    refine ⟨?_, h2⟩
    rcases h1.2 with q | q
    · omega
    · simp only [Utf8.valid, Bool.or_eq_true, Bool.and_eq_true, decide_eq_true_eq] at q
      omega
end Cv
