/-
  My own library for walks (CvSort): separation logic over the calls of the kit; no statement of this seat stands here.
-/
import Derived.Test.YtfkpgkgjamaoaaaCvLf
import Derived.Test.YtfkpgkgjamaoaaaCvLd
import Derived.Sort.Grow
import Derived.Shelf.SlSortCmp.Kit1
set_option linter.unusedVariables false
set_option linter.unusedSimpArgs false
set_option linter.unusedSectionVars false
namespace Cv
open Go Go.Sort Go.Proofs
/-! ## the kit's contracts of sorting, as contracts of mine (elements of one cell) -/
theorem Sat.growD {σ w : World} {D M : List Asn} (h : Sat σ D M w) : ∀ (os : List Obj), Sat σ D M (grow w os.toArray)
  | [] => by simpa [grow] using h
  | o :: os => by
    have e : grow w (o :: os).toArray = grow (w.alloc o) os.toArray := by
      rw [alloc_eq_grow, grow_grow]; congr 1; (try simp)
    rw [e]
    exact Sat.growD ((h.alloc o).ent (Ent.skip (.refl _))) os
theorem putRow_setB {α : Type} [Inhabited α] {enc : α → Value} {w : World} {b o : Nat} {cs : Array Value} {t : TypeId} {m : Nat × Nat} (d : Array α) (h : w.heap[b]? = some (.cells cs t m)) : putRow enc w b o d = setB w b (.cells (putCells enc o d cs) t m) := by
  have hlt : b < w.heap.size := (Array.getElem?_eq_some_iff.1 h).1
  have hv : w.heap[b] = .cells cs t m := (Array.getElem?_eq_some_iff.1 h).2
  unfold putRow mapBlock setB
  congr 1
  apply Array.ext
  · simp
  · intro k h1 h2
    simp only [Array.getElem_modify]
    split
    · rename_i hk; subst hk; simp [hv, onCells]
    · rename_i hk; rw [Array.getElem_setIfInBounds (by simpa using h2)]; simp [hk]
theorem holds_of_own {α : Type} [Inhabited α] {enc : α → Value} {σ w : World} {D N : List Asn} {e : TypeId} {b o len cap : Nat} {xs : List α} (ss : Sat σ D (own 1 e (some ⟨b, o, none⟩) len cap (xs.map fun x => [enc x]) :: N) w) :
    xs.length = len ∧ b < w.heap.size ∧ Go.Sort.Holds enc w b o xs.toArray ∧ ∀ d' : Array α, d'.size = len → Sat σ D (own 1 e (some ⟨b, o, none⟩) len cap (d'.toList.map fun x => [enc x]) :: N) (putRow enc w b o d') := by
  obtain ⟨z, k, h1, h2, h3, h4, ⟨g1, g2, l1, l2, dj, H, hN⟩⟩ := ss.heap
  obtain ⟨e1, e2, e3, e4⟩ := H
  rw [List.length_map] at e1
  rcases e4 with ⟨e4, _⟩ | ⟨b', o', cs, e4, e5, e6, e7⟩
  · cases e4
  injection e4 with e4; injection e4 with e8 e9
  subst e8; subst e9
  have hb : w.heap[b]? = some (.cells cs e (0, 0)) := h2 _ _ (l1 _ _ e5)
  have hlt : b < w.heap.size := (Array.getElem?_eq_some_iff.1 hb).1
  refine ⟨e1, hlt, fun j hj => ⟨?_, by simp [World.frozen?, hb]⟩, fun d' hd => ?_⟩
  · have hj' : j < xs.length := by simpa using hj
    have := e7 j 0 [enc xs[j]] (enc xs[j]) (by simp [hj']) rfl
    simp only [Nat.mul_one, Nat.add_zero] at this
    rw [cell_of hb, this]
    simp [hj']
  · rw [putRow_setB d' hb]
    have s2 : Sat σ D (pt b (.cells cs e (0, 0)) :: N) w := ⟨ss.os, ss.tape, ss.output, z, k, h1, h2, h3, h4, g1, g2, l1, l2, dj, e5, hN⟩
    refine (s2.setB (o' := .cells (putCells enc o d' cs) e (0, 0)) Upd.here).ent (Ent.imp fun h hp => ?_)
    refine ⟨by simp [hd], e2, fun r hr => ?_, .inr ⟨b, o, _, rfl, hp, by simpa [putCells] using e6, fun i j r v hi hv => ?_⟩⟩
    · obtain ⟨x, _, rfl⟩ := List.mem_map.1 hr; rfl
    · rw [List.getElem?_map] at hi
      cases hx : d'.toList[i]? with
      | none => rw [hx] at hi; cases hi
      | some x =>
        rw [hx] at hi; simp only [Option.map_some, Option.some.injEq] at hi; subst hi
        cases j with
        | succ j => simp at hv
        | zero =>
          simp only [List.getElem?_cons_zero, Option.some.injEq] at hv; subst hv
          have hi : i < d'.size := by have := (List.getElem?_eq_some_iff.1 hx).1; simpa using this
          have hic : o + i < cs.size := by omega
          have hx' : d'[i] = x := by have := (List.getElem?_eq_some_iff.1 hx).2; simpa using this
          simp only [putCells, Array.getElem?_mapIdx, Nat.mul_one, Nat.add_zero, Array.getElem?_eq_getElem hic, Option.map_some]
          rw [if_pos ⟨by omega, by omega⟩, show o + i - o = i from by omega, getElem!_pos d' i hi, hx']
theorem sat_sorted {α : Type} [Inhabited α] {enc : α → Value} {σ w : World} {D N : List Asn} {e : TypeId} {b o len cap : Nat} {xs : List α} (ss : Sat σ D (own 1 e (some ⟨b, o, none⟩) len cap (xs.map fun x => [enc x]) :: N) w) (n : Nat) (d' : Array α) (os : Array Obj) (hd : d'.size = len) :
    Sat σ D (own 1 e (some ⟨b, o, none⟩) len cap (d'.toList.map fun x => [enc x]) :: N) (grow (putRow enc (Sort.ahead w n) b o d') os) := by
  have s1 : Sat σ D (own 1 e (some ⟨b, o, none⟩) len cap (xs.map fun x => [enc x]) :: N) (Sort.ahead w n) := ss.drew (w.drawn + n)
  obtain ⟨_, _, _, h⟩ := holds_of_own s1
  have := (h d' hd).growD os.toList
  simpa using this
theorem sort_of {P : Program} {f : FuncId} {e : TypeId} (hf : IsFn P f)
    (hs : ∀ (blk off cap : Nat) (zs : List Int) (w : World), Go.Sort.Holds (Value.int .i64) w blk off zs.toArray → blk < w.heap.size → zs.length < 4611686018427387904 →
      Calls P f #[.slice (some ⟨blk, off, none⟩) zs.length cap] w fun e w' => e = .returned (.tuple #[]) ∧ ∃ n os, w' = grow (putRow (Value.int .i64) (Sort.ahead w n) blk off (zs.mergeSort fun x y => decide (x ≤ y)).toArray) os)
    (hn : ∀ (p : Option Addr) (cap : Nat) (w : World), Calls P f #[.slice p 0 cap] w fun e w' => e = .returned (.tuple #[]) ∧ w' = w) {a : Option Addr} {len cap : Nat} {xs : List Int} (hb : len < 4611686018427387904) {enc : Int → List Value} (he : enc = fun x => [.int .i64 x]) :
    Spec P f [.slice a len cap] [] [own 1 e a len cap (xs.map enc)] (fun v D' M' => v = .tuple #[] ∧ D' = [] ∧ M' = [own 1 e a len cap ((xs.mergeSort fun x y => decide (x ≤ y)).map enc)]) where
  fn := hf
  run σ D M w ss := by
    subst he
    simp only [List.nil_append, List.cons_append] at ss
    have hl : xs.length = len := by
      obtain ⟨y, _, hy⟩ := ss.own (.head _)
      simpa using hy.1
    cases a with
    | none =>
      have h0 : len = 0 := by
        obtain ⟨y, _, h1, h2, h3, h4⟩ := ss.own (.head _)
        rcases h4 with ⟨_, h4⟩ | ⟨b, o, cs, h4, _⟩
        · omega
        · cases h4
      subst h0
      obtain rfl := List.length_eq_zero_iff.1 hl
      exact (hn none cap w).mono fun e' w' ⟨he, hw⟩ => by
        subst hw
        exact ⟨_, [], [own 1 e none 0 cap ([].map fun x => [.int .i64 x])], he, ⟨rfl, rfl, by simp⟩, ss⟩
    | some ad =>
      have had : ∃ b o, ad = ⟨b, o, none⟩ := by
        obtain ⟨y, _, h1, h2, h3, h4⟩ := ss.own (.head _)
        rcases h4 with ⟨h4, _⟩ | ⟨b, o, cs, h4, _⟩
        · cases h4
        · injection h4 with h4; exact ⟨b, o, h4⟩
      obtain ⟨b, o, rfl⟩ := had
      obtain ⟨_, hlt, hH, _⟩ := holds_of_own (enc := Value.int .i64) ss
      have := hs b o cap xs w hH hlt (by omega)
      rw [hl] at this
      exact this.mono fun e' w' ⟨he, n, os, hw⟩ => by
        subst hw
        have hq := sat_sorted (enc := Value.int .i64) ss n (xs.mergeSort fun x y => decide (x ≤ y)).toArray os (by simp [hl])
        exact ⟨_, [], [_], he, ⟨rfl, rfl, rfl⟩, hq⟩
end Cv
