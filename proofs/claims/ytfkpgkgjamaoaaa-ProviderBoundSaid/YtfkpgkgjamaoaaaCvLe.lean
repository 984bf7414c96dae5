/-
  My own library for walks (CvSort): separation logic over the calls of the kit; no statement of this seat stands here.
-/
import Derived.Test.YtfkpgkgjamaoaaaCvLf
import Derived.Test.YtfkpgkgjamaoaaaCvLd
import Derived.Sort.Grow
import Derived.Shelf.SlSortCmp.Kit1
set_option linter.unusedVariables false
set_option linter.unusedSimpArgs false
set_option linter.unusedSectionVars false
namespace Cv
open Go Go.Sort Go.Proofs
/-! ## the kit's contracts of sorting, as contracts of mine (elements of one cell) -/
theorem Sat.growD {σ w : World} {D M : List Asn} (h : Sat σ D M w) : ∀ (os : List Obj), Sat σ D M (grow w os.toArray)
  | [] => by simpa [grow] using h
  | o :: os => by
    have e : grow w (o :: os).toArray = grow (w.alloc o) os.toArray := by
      rw [alloc_eq_grow, grow_grow]; congr 1; (try simp)
    rw [e]
    exact Sat.growD ((h.alloc o).ent (Ent.skip (.refl _))) os
theorem putRow_setB {α : Type} [Inhabited α] {enc : α → Value} {w : World} {b o : Nat} {cs : Array Value} {t : TypeId} {m : Nat × Nat} (d : Array α) (h : w.heap[b]? = some (.cells cs t m)) : putRow enc w b o d = setB w b (.cells (putCells enc o d cs) t m) := by
  have hlt : b < w.heap.size := (Array.getElem?_eq_some_iff.1 h).1
  have hv : w.heap[b] = .cells cs t m := (Array.getElem?_eq_some_iff.1 h).2
  unfold putRow mapBlock setB
  congr 1
  apply Array.ext
  · simp
  · intro k h1 h2
    simp only [Array.getElem_modify]
    split
    · rename_i hk; subst hk; simp [hv, onCells]
    · rename_i hk; rw [Array.getElem_setIfInBounds (by simpa using h2)]; simp [hk]
theorem holds_of_own {α : Type} [Inhabited α] {enc : α → Value} {σ w : World} {D N : List Asn} {e : TypeId} {b o len cap : Nat} {xs : List α} (ss : Sat σ D (own 1 e (some ⟨b, o, none⟩) len cap (xs.map fun x => [enc x]) :: N) w) :
    xs.length = len ∧ b < w.heap.size ∧ Go.Sort.Holds enc w b o xs.toArray ∧ ∀ d' : Array α, d'.size = len → Sat σ D (own 1 e (some ⟨b, o, none⟩) len cap (d'.toList.map fun x => [enc x]) :: N) (putRow enc w b o d') := by
  obtain ⟨z, k, h1, h2, h3, h4, ⟨g1, g2, l1, l2, dj, H, hN⟩⟩ := ss.heap
  obtain ⟨e1, e2, e3, e4⟩ := H
  rw [List.length_map] at e1
  rcases e4 with ⟨e4, _⟩ | ⟨b', o', cs, e4, e5, e6, e7⟩
  · cases e4
  injection e4 with e4; injection e4 with e8 e9
  subst e8; subst e9
  have hb : w.heap[b]? = some (.cells cs e (0, 0)) := h2 _ _ (l1 _ _ e5)
  have hlt : b < w.heap.size := (Array.getElem?_eq_some_iff.1 hb).1
  refine ⟨e1, hlt, fun j hj => ⟨?_, by simp [World.frozen?, hb]⟩, fun d' hd => ?_⟩
  · have hj' : j < xs.length := by simpa using hj
    have := e7 j 0 [enc xs[j]] (enc xs[j]) (by simp [hj']) rfl
    simp only [Nat.mul_one, Nat.add_zero] at this
    rw [cell_of hb, this]
    simp [hj']
  · rw [putRow_setB d' hb]
    have s2 : Sat σ D (pt b (.cells cs e (0, 0)) :: N) w := ⟨ss.os, ss.tape, ss.output, z, k, h1, h2, h3, h4, g1, g2, l1, l2, dj, e5, hN⟩
    refine (s2.setB (o' := .cells (putCells enc o d' cs) e (0, 0)) Upd.here).ent (Ent.imp fun h hp => ?_)
    refine ⟨by simp [hd], e2, fun r hr => ?_, .inr ⟨b, o, _, rfl, hp, by simpa [putCells] using e6, fun i j r v hi hv => ?_⟩⟩
    · obtain ⟨x, _, rfl⟩ := List.mem_map.1 hr; rfl
    · rw [List.getElem?_map] at hi
      cases hx : d'.toList[i]? with
      | none => rw [hx] at hi; cases hi
      | some x =>
        rw [hx] at hi; simp only [Option.map_some, Option.some.injEq] at hi; subst hi
        cases j with
        | succ j => simp at hv
        | zero =>
          simp only [List.getElem?_cons_zero, Option.some.injEq] at hv; subst hv
          have hi : i < d'.size := by have := (List.getElem?_eq_some_iff.1 hx).1; simpa using this
          have hic : o + i < cs.size := by omega
          have hx' : d'[i] = x := by have := (List.getElem?_eq_some_iff.1 hx).2; simpa using this
          simp only [putCells, Array.getElem?_mapIdx, Nat.mul_one, Nat.add_zero, Array.getElem?_eq_getElem hic, Option.map_some]
          rw [if_pos ⟨by omega, by omega⟩, show o + i - o = i from by omega, getElem!_pos d' i hi, hx']
theorem sat_sorted {α : Type} [Inhabited α] {enc : α → Value} {σ w : World} {D N : List Asn} {e : TypeId} {b o len cap : Nat} {xs : List α} (ss : Sat σ D (own 1 e (some ⟨b, o, none⟩) len cap (xs.map fun x => [enc x]) :: N) w) (n : Nat) (d' : Array α) (os : Array Obj) (hd : d'.size = len) :
    Sat σ D (own 1 e (some ⟨b, o, none⟩) len cap (d'.toList.map fun x => [enc x]) :: N) (grow (putRow enc (Sort.ahead w n) b o d') os) := by
  have s1 : Sat σ D (own 1 e (some ⟨b, o, none⟩) len cap (xs.map fun x => [enc x]) :: N) (Sort.ahead w n) := ss.drew (w.drawn + n)
  obtain ⟨_, _, _, h⟩ := holds_of_own s1
  have := (h d' hd).growD os.toList
  simpa using this
/-- slices.Sort at ints -/
theorem sort_of {P : Program} {f : FuncId} {e : TypeId} (hf : IsFn P f)
    (hs : ∀ (blk off cap : Nat) (zs : List Int) (w : World), Go.Sort.Holds (Value.int .i64) w blk off zs.toArray → blk < w.heap.size → zs.length < 4611686018427387904 →
      Calls P f #[.slice (some ⟨blk, off, none⟩) zs.length cap] w fun e w' => e = .returned (.tuple #[]) ∧ ∃ n os, w' = grow (putRow (Value.int .i64) (Sort.ahead w n) blk off (zs.mergeSort fun x y => decide (x ≤ y)).toArray) os)
    (hn : ∀ (p : Option Addr) (cap : Nat) (w : World), Calls P f #[.slice p 0 cap] w fun e w' => e = .returned (.tuple #[]) ∧ w' = w) {a : Option Addr} {len cap : Nat} {xs : List Int} (hb : len < 4611686018427387904) {enc : Int → List Value} (he : enc = fun x => [.int .i64 x]) :
    Spec P f [.slice a len cap] [] [own 1 e a len cap (xs.map enc)] (fun v D' M' => v = .tuple #[] ∧ D' = [] ∧ M' = [own 1 e a len cap ((xs.mergeSort fun x y => decide (x ≤ y)).map enc)]) where
  fn := hf
  run σ D M w ss := by
    subst he
    simp only [List.nil_append, List.cons_append] at ss
    have hl : xs.length = len := by
      obtain ⟨y, _, hy⟩ := ss.own (.head _)
      simpa using hy.1
    cases a with
    | none =>
      have h0 : len = 0 := by
        obtain ⟨y, _, h1, h2, h3, h4⟩ := ss.own (.head _)
        rcases h4 with ⟨_, h4⟩ | ⟨b, o, cs, h4, _⟩
        · omega
        · cases h4
      subst h0
      obtain rfl := List.length_eq_zero_iff.1 hl
      exact (hn none cap w).mono fun e' w' ⟨he, hw⟩ => by
        subst hw
        exact ⟨_, [], [own 1 e none 0 cap ([].map fun x => [.int .i64 x])], he, ⟨rfl, rfl, by simp⟩, ss⟩
    | some ad =>
      have had : ∃ b o, ad = ⟨b, o, none⟩ := by
        obtain ⟨y, _, h1, h2, h3, h4⟩ := ss.own (.head _)
        rcases h4 with ⟨h4, _⟩ | ⟨b, o, cs, h4, _⟩
        · cases h4
        · injection h4 with h4; exact ⟨b, o, h4⟩
      obtain ⟨b, o, rfl⟩ := had
      obtain ⟨_, hlt, hH, _⟩ := holds_of_own (enc := Value.int .i64) ss
      have := hs b o cap xs w hH hlt (by omega)
      rw [hl] at this
      exact this.mono fun e' w' ⟨he, n, os, hw⟩ => by
        subst hw
        have hq := sat_sorted (enc := Value.int .i64) ss n (xs.mergeSort fun x y => decide (x ≤ y)).toArray os (by simp [hl])
        exact ⟨_, [], [_], he, ⟨rfl, rfl, rfl⟩, hq⟩
/-- what is called with a world that is as W but for new blocks and draws -/
theorem grown_of_below {W w : World} (h : Go.RowKit.Below W.heap.size W w) (hd : W.drawn ≤ w.drawn) : ∃ q os, w = grow (W.drewN q) os := by
  refine ⟨w.drawn - W.drawn, w.heap.extract W.heap.size w.heap.size, ?_⟩
  obtain ⟨h1, h2, h3, h4, h5⟩ := h
  have e : w.heap = W.heap ++ w.heap.extract W.heap.size w.heap.size := by
    apply Array.ext_getElem?
    intro k
    by_cases hk : k < W.heap.size
    · rw [h5 k hk, Array.getElem?_append_left hk]
    · rw [Array.getElem?_append_right (by omega), Array.getElem?_extract]
      by_cases hk2 : k < w.heap.size
      · rw [if_pos (by omega)]; congr 1; omega
      · rw [if_neg (by omega), Array.getElem?_eq_none (by omega)]
  have ed : w.drawn = W.drawn + (w.drawn - W.drawn) := by omega
  cases w; cases W
  simp only [grow, World.drewN] at *
  subst h1; subst h2; subst h3
  congr 1
/-- slices.SortFunc, elements of one cell -/
theorem cmp_lays {P : Program} {g : Nat} {cb : List Value} {α : Type} [Inhabited α] {enc : α → Value} {cf : α → α → Int} {D0 : List Asn} {blk off size : Nat} {w : World}
    (hc : ∀ x y, Spec P g (enc x :: enc y :: cb) D0 [] (fun v D' M' => v = .int .i64 (cf x y) ∧ D' = [] ∧ M' = []))
    (hW : ∀ m os dk, dk.size = size → ∀ φ ∈ D0, φ (hp (sortWorld enc w blk off m dk os))) : CmpLays1 P g cb.toArray enc cf blk off size w := fun m os dk hk x y => by
  have := (hc x y).run (sortWorld enc w blk off m dk os) [old (sortWorld enc w blk off m dk os)] [] (sortWorld enc w blk off m dk os) (Sat.start _ (hW m os dk hk))
  have e : #[enc x, enc y] ++ cb.toArray = (enc x :: enc y :: cb).toArray := by simp
  rw [e]
  refine this.mono ?_
  rintro e' w' ⟨v, D', M', he, ⟨hv, hd, hm⟩, hs⟩
  subst hv; subst hd; subst hm
  exact ⟨he, grown_of_below (hs.below (by simp)) hs.os.2⟩
/-- ys is xs, put in order by cf -/
def SortedBy {α : Type} (cf : α → α → Int) (xs ys : List α) : Prop := ys.Perm xs ∧ ys.Pairwise (fun x y => ¬ cf y x < 0)
theorem sortedBy_of {α : Type} [Inhabited α] {cf : α → α → Int} {d d' : Array α} (h1 : PermIn 0 d.size d d') (h2 : SortedIn (ltOf cf) 0 d.size d') : SortedBy cf d.toList d'.toList ∧ d'.size = d.size := by
  obtain ⟨e1, _, e3⟩ := h1
  refine ⟨⟨?_, ?_⟩, e1⟩
  · rw [show d'.extract 0 d.size = d' from by rw [← e1]; simp, show d.extract 0 d.size = d from by simp] at e3
    exact e3
  · rw [List.pairwise_iff_getElem]
    intro i j hi hj hij
    have hi' : i < d'.size := by simpa using hi
    have hj' : j < d'.size := by simpa using hj
    have := h2 i j (Nat.zero_le _) hij (by omega)
    rw [getElem!_pos d' i hi', getElem!_pos d' j hj'] at this
    simpa [ltOf] using this
theorem sortFunc_of {P : Program} {f g : FuncId} {e : TypeId} (hf : IsFn P f) (hg : IsFn P g) {α : Type} [Inhabited α] (enc : α → Value) (h1 : OneCell enc) (cf : α → α → Int) (hO : SWO (ltOf cf)) (cb : List Value)
    (hs : ∀ (blk off cap : Nat) (d : Array α) (w : World), CmpLays1 P g cb.toArray enc cf blk off d.size w → Go.Sort.Holds enc w blk off d → blk < w.heap.size → d.size < 4611686018427387904 →
      Calls P f #[.slice (some ⟨blk, off, none⟩) d.size cap, .func (.func g) #[] cb.toArray] w fun e w' => e = .returned (.tuple #[]) ∧ ∃ d' n os, PermIn 0 d.size d d' ∧ SortedIn (ltOf cf) 0 d.size d' ∧ w' = sortWorld enc w blk off n d' os)
    (hn : ∀ (p : Option Addr) (cap : Nat) (fv : Value) (w : World), Calls P f #[.slice p 0 cap, fv] w fun e w' => e = .returned (.tuple #[]) ∧ w' = w)
    {D0 : List Asn} (hc : ∀ x y, Spec P g (enc x :: enc y :: cb) D0 [] (fun v D' M' => v = .int .i64 (cf x y) ∧ D' = [] ∧ M' = []))
    (hup : ∀ φ ∈ D0, ∀ y z, φ y → Hp.le y z → φ z) {a : Option Addr} {len cap : Nat} {xs : List α} (hb : len < 4611686018427387904) {en : α → List Value} (he : en = fun x => [enc x]) :
    Spec P f [.slice a len cap, .func (.func g) #[] cb.toArray] D0 [own 1 e a len cap (xs.map en)] (fun v D' M' => ∃ ys, v = .tuple #[] ∧ SortedBy cf xs ys ∧ D' = [] ∧ M' = [own 1 e a len cap (ys.map en)]) where
  fn := hf
  run σ D M w ss := by
    subst he
    simp only [List.cons_append, List.nil_append] at ss
    have hl : xs.length = len := by
      obtain ⟨y, _, hy⟩ := ss.own (.head _)
      simpa using hy.1
    have fin : ∀ {w' : World} {ys : List α}, SortedBy cf xs ys → Sat σ (D0 ++ D) (own 1 e a len cap (ys.map fun x => [enc x]) :: M) w' → RetPost σ (fun v D' M' => ∃ ys, v = .tuple #[] ∧ SortedBy cf xs ys ∧ D' = [] ∧ M' = [own 1 e a len cap (ys.map fun x => [enc x])]) D M (.returned (.tuple #[])) w' := fun h1 h2 =>
      ⟨_, [], [_], rfl, ⟨_, rfl, h1, rfl, rfl⟩, h2.facts (fun φ h => List.mem_append.2 (.inr h))⟩
    cases a with
    | none =>
      have h0 : len = 0 := by
        obtain ⟨y, _, h1, h2, h3, h4⟩ := ss.own (.head _)
        rcases h4 with ⟨_, h4⟩ | ⟨b, o, cs, h4, _⟩
        · omega
        · cases h4
      subst h0
      obtain rfl := List.length_eq_zero_iff.1 hl
      exact (hn none cap _ w).mono fun e' w' ⟨he, hw⟩ => by
        subst hw; subst he
        exact fin (ys := []) ⟨.refl _, .nil⟩ ss
    | some ad =>
      have had : ∃ b o, ad = ⟨b, o, none⟩ := by
        obtain ⟨y, _, h1, h2, h3, h4⟩ := ss.own (.head _)
        rcases h4 with ⟨h4, _⟩ | ⟨b, o, cs, h4, _⟩
        · cases h4
        · injection h4 with h4; exact ⟨b, o, h4⟩
      obtain ⟨b, o, rfl⟩ := had
      obtain ⟨_, hlt, hH, _⟩ := holds_of_own (enc := enc) ss
      have hC : CmpLays1 P g cb.toArray enc cf b o xs.toArray.size w := cmp_lays hc (fun m os dk hk φ hφ => by
        have hq := sat_sorted (enc := enc) ss m dk os (by simpa [hl] using hk)
        obtain ⟨y, ly, hy⟩ := hq.fact (List.mem_append.2 (.inl hφ))
        exact hup φ hφ _ _ hy ly)
      have := hs b o cap xs.toArray w hC hH hlt (by simp; omega)
      simp only [List.size_toArray, hl] at this
      exact this.mono fun e' w' ⟨he, d', n, os, hp, hS, hw⟩ => by
        subst hw; subst he
        obtain ⟨q1, q2⟩ := sortedBy_of (d := xs.toArray) (by simpa [hl] using hp) (by simpa [hl] using hS)
        have hq := sat_sorted (enc := enc) ss n d' os (by simpa [hl] using q2)
        exact fin (by simpa using q1) hq
end Cv
