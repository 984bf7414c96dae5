/-
  My own library for walks, a text of it (CvMake): separation logic over the kit's Calls; no statement of this seat stands here.
-/
import Derived.Test.YtdajpfbgikgkeaaCvTreeArg
import Derived.Laws.MakeOwn
import Derived.Laws.OwnMore
import Derived.Laws.IdiomStrings
set_option linter.unusedVariables false
set_option linter.unusedSimpArgs false
set_option linter.unusedSectionVars false
namespace Cv
open Go
section
variable {P : Program} {σ : World} {n : Nat} {Q : Post} {K : Env} {D M : List Asn} {m : Option (List Asn × List Asn)} {ops : Array Oper} {rest : List Oper} {d : Nat} {ty : TypeId} {pos : String} {aft : Array Edge}
/-- zero bytes that are never written: a fact -/
theorem L.makeBytes {t e : TypeId} {x y : Operand} {kl kc : IntKind} {zl zc : Int} {k : Nat} (hd : Nat.blt d n = true) (hU : P.underlying t = some (.slice e)) (hi : (P.info? e).map (fun i => (i.zero, i.size, i.bytes)) = some (some (.int .u8 0), 1, 1))
    (hx : ev K x = some (.int kl zl)) (hy : ev K y = some (.int kc zc)) (hl : zl = (k : Int)) (hc : zc = (k : Int)) (hb : k ≤ 281474976710656)
    (next : ∀ b, TL none P σ n ops Q rest ((d, .slice (some ⟨b, 0, none⟩) k k) :: K) (rsl 1 (some ⟨b, 0, none⟩) k k ((List.replicate k (0 : UInt8)).map yr) :: D) M) :
    TL none P σ n ops Q (⟨some d, .makeSlice t x y, ty, pos, aft, none⟩ :: rest) K D M :=
  L.op rfl fun a w s ss K' hK' => by
    subst hl; subst hc
    cases hie : P.info? e with
    | none => rw [hie] at hi; cases hi
    | some i =>
      rw [hie] at hi
      simp only [Option.map_some, Option.some.injEq, Prod.mk.injEq] at hi
      obtain ⟨h1, h2, h3⟩ := hi
      have hr := run_make (P := P) w t e i _ hU hie h1 kl kc (k : Int) (k : Int) (by omega) (Int.le_refl _) (by rw [h3]; omega) (by omega)
      have e1 := s.eval hx
      have e2 := s.eval hy
      unfold Oper.wp
      have hx' : (execOp a.eval ⟨some d, .makeSlice t x y, ty, pos, aft, none⟩).run P w = .ok (.value (.slice (some ⟨w.heap.size, 0, none⟩) k k)) (w.alloc (.cells (madeCells #[.int .u8 0] k) e)) := by
        simp only [execOp, e1, e2]
        rw [Sem.run_bind, hr]
        simp [h2, Value.cells]
      rw [hx']
      have s2 := (ss.alloc (.cells (madeCells #[.int .u8 0] k) e)).freeze.derive (ψ := rsl 1 (some ⟨w.heap.size, 0, none⟩) k k ((List.replicate k (0 : UInt8)).map yr)) mem_head (fun z hz => by
        refine ⟨by simp, Nat.le_refl _, fun r hr => ?_, .inr ⟨_, _, _, _, _, rfl, hz, fun i j r v hi hj => ?_⟩⟩
        · obtain ⟨q, _, rfl⟩ := List.mem_map.1 hr; rfl
        · have hi' : i < k := by simpa using (List.getElem?_eq_some_iff.1 hi).1
          rw [List.getElem?_map, List.getElem?_replicate, if_pos hi'] at hi
          simp only [Option.map_some, Option.some.injEq] at hi
          subst hi
          cases j with
          | succ j => simp at hj
          | zero =>
            simp only [List.getElem?_cons_zero, Option.some.injEq] at hj
            subst hj
            have : (madeCells #[.int .u8 0] k).toList[i]? = some (Y 0) := by rw [toList_madeCells_one, List.getElem?_replicate, if_pos hi']; rfl
            simpa using this)
      refine hK' _ _ (next w.heap.size _ _ (s.put _ hd) (s2.facts fun φ h => ?_))
      rcases List.mem_cons.1 h with q | q
      · subst q; exact mem_head
      · exact mem_tail (mem_tail q)
/-- a string's bytes, that are never written: a fact -/
theorem L.strBytes {src dst e : TypeId} {x : Operand} {l : List UInt8} (hd : Nat.blt d n = true) (hs : P.underlying src = some .string) (hU : P.underlying dst = some (.slice e)) (hE : P.underlying e = some (.int .u8)) (hx : ev K x = some (S l))
    (next : ∀ b cap, TL none P σ n ops Q rest ((d, .slice (some ⟨b, 0, none⟩) l.length cap) :: K) (rsl 1 (some ⟨b, 0, none⟩) l.length cap (l.map yr) :: D) M) :
    TL none P σ n ops Q (⟨some d, .convert src dst x, ty, pos, aft, none⟩ :: rest) K D M :=
  L.op rfl fun a w s ss K' hK' => by
    have e1 := s.eval hx
    have hr := run_bytes_of_string (P := P) w src dst e ⟨l.toArray⟩ hs hU hE
    obtain ⟨cap, hcap⟩ : ∃ c, grownCap w (ByteArray.mk l.toArray).size 0 e = c := ⟨_, rfl⟩
    have hge : l.length ≤ cap := by rw [← hcap]; exact grownCap_ge w _ 0 e
    rw [hcap] at hr
    unfold Oper.wp
    have hx' : (execOp a.eval ⟨some d, .convert src dst x, ty, pos, aft, none⟩).run P w = .ok (.value (.slice (some ⟨w.heap.size, 0, none⟩) l.length cap)) (w.drew.alloc (.cells (bytesRow ⟨l.toArray⟩ cap) e ((bytesRow ⟨l.toArray⟩ cap).size, (bytesRow ⟨l.toArray⟩ cap).size + 1))) := by
      simp only [execOp, e1, S]
      rw [Sem.run_bind, hr]
      rfl
    rw [hx']
    have s1 : Sat σ D M w.drew := ss.drew (w.drawn + 1)
    have s2 := (s1.alloc (.cells (bytesRow ⟨l.toArray⟩ cap) e ((bytesRow ⟨l.toArray⟩ cap).size, (bytesRow ⟨l.toArray⟩ cap).size + 1))).freeze.derive (ψ := rsl 1 (some ⟨w.heap.size, 0, none⟩) l.length cap (l.map yr)) mem_head (fun z hz => by
      refine ⟨by simp, hge, fun r hr => ?_, .inr ⟨_, _, _, _, _, rfl, hz, fun i j r v hi hj => ?_⟩⟩
      · obtain ⟨q, _, rfl⟩ := List.mem_map.1 hr; rfl
      · rw [List.getElem?_map] at hi
        cases hl : l[i]? with
        | none => rw [hl] at hi; cases hi
        | some c =>
          rw [hl] at hi
          simp only [Option.map_some, Option.some.injEq] at hi
          subst hi
          cases j with
          | succ j => simp at hj
          | zero =>
            simp only [List.getElem?_cons_zero, Option.some.injEq] at hj
            subst hj
            have hi' : i < l.length := (List.getElem?_eq_some_iff.1 hl).1
            have := bytesRow_at ⟨l.toArray⟩ cap i (by simpa using hi')
            have e2 : l[i] = c := (List.getElem?_eq_some_iff.1 hl).2
            simp only [Nat.mul_one, Nat.add_zero, Nat.zero_add]
            rw [this]
            simp [Y, e2])
    refine hK' _ _ (next w.heap.size cap _ _ (s.put _ hd) (s2.facts fun φ h => ?_))
    rcases List.mem_cons.1 h with q | q
    · subst q; exact mem_head
    · exact mem_tail (mem_tail q)
end
end Cv
