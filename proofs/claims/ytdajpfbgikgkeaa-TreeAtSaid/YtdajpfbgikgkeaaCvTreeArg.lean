/-
  My own library for walks, a text of it (CvTreeArg): separation logic over the kit's Calls; no statement of this seat stands here.
-/
import Derived.Test.YtdajpfbgikgkeaaCvTree
set_option linter.unusedVariables false
set_option linter.unusedSimpArgs false
set_option linter.unusedSectionVars false
namespace Cv
open Go Go.RowKit Go.ChangeShapes Go.WideShapes Go.ChangeAt
section
variable {H : Type} {enc : TypeId × Value → H} {P : Program} {W : World} {base : Nat} {sp : Nat → Bool} {held : Bool}
/-- as arg_slice, its elements read with less fuel -/
theorem arg_sliceF {α : Type} {t e sz fuel len cap : Nat} {a : Option Addr} {x : DataW H × List MemPlace} (enc1 : α → List Value) (good : α → Prop) (ht : P.underlying t = some (.slice e)) (hc : P.cellsOf e = sz) (hsz0 : sz ≠ 0)
    (hel : ∀ {n : Nat} {cs' : List Value} {y : DataW H × List MemPlace}, n < fuel → DataW.trod enc P W base sp held n e cs' = some y → ∃ z, cs' = enc1 z ∧ good z) (h : DataW.trod enc P W base sp held fuel t [Value.slice a len cap] = some x) :
    ∃ xs : List α, rsl sz a len cap (xs.map enc1) (hp W) ∧ xs.length = len ∧ cap ≤ maxLen ∧ (∀ z ∈ xs, good z) ∧ (x.1 = .nil ∧ len = 0 ∨ ∃ els spare, x.1 = .slice els spare ∧ els.length = len) := by
  rcases DataW.trod_slice ht h with ⟨h1, h2⟩ | ⟨ad, len', cap', elems, restl, n, hfu, h1, hx, hb, hl, hm, hlen, hel2, hsp, hns⟩
  · simp at h1
    obtain ⟨rfl, rfl, rfl⟩ := h1
    exact ⟨[], rsl_nil, rfl, by simp, by simp, .inl ⟨by rw [h2], rfl⟩⟩
  · simp at h1
    obtain ⟨rfl, rfl, rfl⟩ := h1
    have each : ∀ i, i < len → ∃ z, good z ∧ (enc1 z).length = sz ∧ ∀ j v, (enc1 z)[j]? = some v → W.cell? (ad.add (i * sz + j)) = some v := by
      intro i hi
      have h3 := hel2 i hi
      rw [List.getElem?_eq_getElem (by omega), Option.bind_eq_some_iff] at h3
      obtain ⟨cs', g1, g2⟩ := h3
      obtain ⟨z, rfl, hz⟩ := hel (by omega) g2
      rw [hc] at g1
      obtain ⟨_, g4, g5⟩ := World.cells?_some g1
      refine ⟨z, hz, g4, fun j v hv => ?_⟩
      have hj : j < sz := by rw [← g4]; exact (List.getElem?_eq_some_iff.1 hv).1
      rw [← hv, ← g5 j hj]
      congr 1
      unfold Addr.add
      by_cases e1 : i * sz = 0
      · simp [e1]
      · by_cases e2 : j = 0
        · subst e2; simp [e1]
        · simp [e1, e2, show ¬ (i * sz + j = 0) by omega]
          omega
    have mk : ∃ xs : List α, xs.length = len ∧ ∀ i z, xs[i]? = some z → good z ∧ (enc1 z).length = sz ∧ ∀ j v, (enc1 z)[j]? = some v → W.cell? (ad.add (i * sz + j)) = some v := by
      have key : ∀ k, k ≤ len → ∃ xs : List α, xs.length = k ∧ ∀ i z, xs[i]? = some z → good z ∧ (enc1 z).length = sz ∧ ∀ j v, (enc1 z)[j]? = some v → W.cell? (ad.add (i * sz + j)) = some v := by
        intro k
        induction k with
        | zero => exact fun _ => ⟨[], rfl, fun i z hz => by simp at hz⟩
        | succ k ih =>
          intro hk
          obtain ⟨xs, q1, q2⟩ := ih (by omega)
          obtain ⟨z, z1, z2, z3⟩ := each k (by omega)
          refine ⟨xs ++ [z], by simp [q1], fun i y hy => ?_⟩
          by_cases hi : i < xs.length
          · rw [List.getElem?_append_left hi] at hy; exact q2 i y hy
          · rw [List.getElem?_append_right (by omega)] at hy
            have : i = xs.length := by
              have := (List.getElem?_eq_some_iff.1 hy).1
              simp at this; omega
            subst this
            simp at hy
            subst hy
            rw [q1]; exact ⟨z1, z2, z3⟩
      exact key len (Nat.le_refl _)
    obtain ⟨xs, q1, q2⟩ := mk
    refine ⟨xs, ⟨by simpa using q1, hl, ?_, ?_⟩, q1, hm, ?_, .inr ⟨_, _, by rw [hx], by simpa using hlen⟩⟩
    · intro r hr
      obtain ⟨z, hz, rfl⟩ := List.mem_map.1 hr
      obtain ⟨i, hi, rfl⟩ := List.getElem_of_mem hz
      exact (q2 i _ (List.getElem?_eq_getElem hi)).2.1
    · by_cases h0 : len * sz = 0
      · by_cases hlen : len = 0
        · left; rw [List.map_eq_nil_iff]; exact List.length_eq_zero_iff.1 (by omega)
        · have hsz : sz = 0 := by exact (Nat.mul_eq_zero.1 h0).resolve_left hlen
          exact absurd hsz hsz0
      · right
        have hl0 : 0 < len := Nat.pos_of_ne_zero (fun e => h0 (by simp [e]))
        have hs0 : 0 < sz := Nat.pos_of_ne_zero (fun e => h0 (by simp [e]))
        obtain ⟨z, z1, z2, z3⟩ := each 0 hl0
        have hz0 : (enc1 z)[0]? = some ((enc1 z)[0]'(by omega)) := List.getElem?_eq_getElem (by omega)
        have hcell := z3 0 _ hz0
        simp only [Nat.zero_mul, Nat.zero_add] at hcell
        obtain ⟨b, off, spot⟩ := ad
        have : ∃ c t m, W.heap[b]? = some (.cells c t m) ∧ spot = none := by
          unfold World.cell? at hcell
          simp only [Addr.add, if_true] at hcell
          split at hcell
          · rename_i c t m hb'
            cases spot with
            | none => exact ⟨c, t, m, hb', rfl⟩
            | some s => simp at hcell
          · cases hcell
        obtain ⟨c, t', m', hb', rfl⟩ := this
        refine ⟨b, off, c, t', m', rfl, hb', fun i j r v hr hv => ?_⟩
        rw [List.getElem?_map] at hr
        cases hx : xs[i]? with
        | none => rw [hx] at hr; cases hr
        | some z' =>
          rw [hx] at hr
          cases hr
          have := (q2 i z' hx).2.2 j v hv
          rw [add_lit, cell_of hb', ← Nat.add_assoc] at this
          exact this
    · intro z hz
      obtain ⟨i, hi, rfl⟩ := List.getElem_of_mem hz
      exact (q2 i _ (List.getElem?_eq_getElem hi)).1
/-- an entry read, with where what is in it lies -/
abbrev ET := Tr × (Option Addr × Nat × Nat)
@[reducible] def eT (z : ET) : List Value := eRow z.1 z.2.1 z.2.2.1 z.2.2.2
/-- the types of items and entries -/
structure TreeT (P : Program) (tK tS tI tL tE : TypeId) (f0 f1 f2 g0 g1 : Field) : Prop where
  uK : P.underlying tK = some (.int .i64)
  uS : P.underlying tS = some .string
  uI : P.underlying tI = some (.struct #[f0, f1, f2])
  uL : P.underlying tL = some (.slice tE)
  uE : P.underlying tE = some (.struct #[g0, g1])
  cK : P.cellsOf tK = 1
  cS : P.cellsOf tS = 1
  cI : P.cellsOf tI = 3
  cL : P.cellsOf tL = 1
  cE : P.cellsOf tE = 4
  h : f0.type = tK ∧ f0.offset = 0 ∧ f1.type = tS ∧ f1.offset = 1 ∧ f2.type = tL ∧ f2.offset = 2 ∧ g0.type = tS ∧ g0.offset = 0 ∧ g1.type = tI ∧ g1.offset = 1
variable {tK tS tI tL tE : TypeId} {f0 f1 f2 g0 g1 : Field}
theorem bytes_S (s : ByteArray) : Value.string s = S s.data.toList := by simp [S]
def TBd (y : Tr) (cap : Nat) : Prop := (-9223372036854775808 ≤ y.k ∧ y.k ≤ 9223372036854775807) ∧ y.n.length ≤ maxLen ∧ y.t.length ≤ maxLen ∧ cap ≤ maxLen
theorem item_step (h : TreeT P tK tS tI tL tE f0 f1 f2 g0 g1) {fuel : Nat} (ih : ∀ {n : Nat} {cs' : List Value} {y : DataW H × List MemPlace}, n < fuel → DataW.trod enc P W base sp held n tE cs' = some y → ∃ z : ET, cs' = eT z ∧ (RT (hp W) z.1 (eT z) ∧ TBd z.1 z.2.2.2)) {cs : List Value} {x : DataW H × List MemPlace}
    (ht : DataW.trod enc P W base sp held fuel tI cs = some x) (nm : List UInt8) (hnm : nm.length ≤ maxLen) : ∃ (z : ET), z.1.n = nm ∧ cs = iRow z.1 z.2.1 z.2.2.1 z.2.2.2 ∧ (RT (hp W) z.1 (eT z) ∧ TBd z.1 z.2.2.2) := by
  obtain ⟨xs, m, rfl, -, hl, hx, hf⟩ := DataW.trod_struct h.uI ht
  obtain ⟨q1, q2, q3, q4, q5, q6, -⟩ := h.h
  rw [h.cI] at hl
  match cs, hl with
  | [c0, c1, c2], _ =>
    obtain ⟨y0, k0⟩ := el_field (o := 0) hx hf 0 f0 rfl q2 (n := 1) (by rw [q1, h.cK])
    obtain ⟨y1, k1⟩ := el_field (o := 1) hx hf 1 f1 rfl q4 (n := 1) (by rw [q3, h.cS])
    obtain ⟨y2, k2⟩ := el_field (o := 2) hx hf 2 f2 rfl q6 (n := 1) (by rw [q5, h.cL])
    rw [q1] at k0; rw [q3] at k1; rw [q5] at k2
    obtain ⟨n, e0, -, hw⟩ := DataW.trod_int h.uK k0
    obtain ⟨s, e1, -, hs⟩ := DataW.trod_string h.uS k1
    simp only [List.drop, List.take, List.cons.injEq, and_true] at e0 e1 k2
    subst e0; subst e1
    have sh : ∃ a len cap, c2 = .slice a len cap := by
      rcases DataW.trod_slice h.uL k2 with ⟨h1, h2⟩ | ⟨ad, len', cap', elems, restl, n, hfu, h1, _⟩
      · simp at h1; exact ⟨_, _, _, h1⟩
      · simp at h1; exact ⟨_, _, _, h1⟩
    obtain ⟨a, len, cap, rfl⟩ := sh
    obtain ⟨zs, r1, r2, r3, r4, r5⟩ := arg_sliceF eT (fun z => RT (hp W) z.1 (eT z) ∧ TBd z.1 z.2.2.2) h.uL h.cE (by decide) (fun hn ht => ih (by omega) ht) k2
    refine ⟨(⟨nm, n, s.data.toList, zs.map (·.1)⟩, (a, len, cap)), rfl, ?_, ?_, wf64 hw, hnm, (by simpa using hs : s.data.toList.length ≤ maxLen), r3⟩
    · rw [bytes_S]; rfl
    · refine .mk (rows := zs.map eT) r1 (by simp [Tr.ks]) (fun i y r hy hr => ?_)
      simp only [Tr.ks, List.getElem?_map] at hy hr
      cases hz : zs[i]? with
      | none => rw [hz] at hy; cases hy
      | some z =>
        rw [hz] at hy hr
        simp only [Option.map_some, Option.some.injEq] at hy hr
        subst hy; subst hr
        exact (r4 z (List.mem_of_getElem? hz)).1
theorem entry_row (h : TreeT P tK tS tI tL tE f0 f1 f2 g0 g1) : ∀ (fuel : Nat) {cs : List Value} {x : DataW H × List MemPlace}, DataW.trod enc P W base sp held fuel tE cs = some x → ∃ z : ET, cs = eT z ∧ (RT (hp W) z.1 (eT z) ∧ TBd z.1 z.2.2.2) := by
  intro fuel
  induction fuel using Nat.strongRecOn with
  | _ fuel ih =>
    intro cs x ht
    obtain ⟨xs, m, rfl, -, hl, hx, hf⟩ := DataW.trod_struct h.uE ht
    obtain ⟨_, _, _, _, _, _, q1, q2, q3, q4⟩ := h.h
    rw [h.cE] at hl
    match cs, hl with
    | [c0, c1, c2, c3], _ =>
      obtain ⟨y0, k0⟩ := el_field (o := 0) hx hf 0 g0 rfl q2 (n := 1) (by rw [q1, h.cS])
      obtain ⟨y1, k1⟩ := el_field (o := 1) hx hf 1 g1 rfl q4 (n := 3) (by rw [q3, h.cI])
      rw [q1] at k0; rw [q3] at k1
      obtain ⟨s, e0, -, hs⟩ := DataW.trod_string h.uS k0
      simp only [List.drop, List.take, List.cons.injEq, and_true] at e0 k1
      subst e0
      obtain ⟨z, z1, z2, z3⟩ := item_step h (fuel := m) (fun hn ht => ih _ (by omega) ht) k1 s.data.toList (by simpa using hs)
      refine ⟨z, ?_, z3⟩
      rw [z2, bytes_S, ← z1]
theorem arg_item (h : TreeT P tK tS tI tL tE f0 f1 f2 g0 g1) {fuel : Nat} {cs : List Value} {x : DataW H × List MemPlace} (ht : DataW.trod enc P W base sp held fuel tI cs = some x) :
    ∃ (y : Tr) (a : Option Addr) (len cap : Nat), cs = iRow y a len cap ∧ rtr y (eRow y a len cap) (hp W) ∧ TBd y cap := by
  obtain ⟨z, z1, z2, z3⟩ := item_step h (fun _ ht => entry_row h _ ht) ht [] (by simp)
  exact ⟨z.1, _, _, _, z2, z3.1, z3.2⟩
/-- a slice of entries: kids of a tree -/
theorem arg_entries (h : TreeT P tK tS tI tL tE f0 f1 f2 g0 g1) {fuel : Nat} {a : Option Addr} {len cap : Nat} {x : DataW H × List MemPlace} (ht : DataW.trod enc P W base sp held fuel tL [.slice a len cap] = some x) :
    ∃ (ks : List Tr) (rows : List (List Value)), rsl 4 a len cap rows (hp W) ∧ kidsA ks rows (hp W) ∧ ks.length = len ∧ (∀ y ∈ ks, y.n.length ≤ maxLen) ∧ cap ≤ maxLen := by
  obtain ⟨zs, r1, r2, r3, r4, r5⟩ := arg_sliceF eT (fun z => RT (hp W) z.1 (eT z) ∧ TBd z.1 z.2.2.2) h.uL h.cE (by decide) (fun _ ht => entry_row h _ ht) ht
  refine ⟨zs.map (·.1), zs.map eT, r1, ⟨by simp, fun i y r hy hr => ?_⟩, by simpa using r2, fun y hy => ?_, r3⟩
  · simp only [List.getElem?_map] at hy hr
    cases hz : zs[i]? with
    | none => rw [hz] at hy; cases hy
    | some z =>
      rw [hz] at hy hr
      simp only [Option.map_some, Option.some.injEq] at hy hr
      subst hy; subst hr
      exact (r4 z (List.mem_of_getElem? hz)).1
  · obtain ⟨z, hz, rfl⟩ := List.mem_map.1 hy
    exact (r4 z hz).2.2.1
end
end Cv
