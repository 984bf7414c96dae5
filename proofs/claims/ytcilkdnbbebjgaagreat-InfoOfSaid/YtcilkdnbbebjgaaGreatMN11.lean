/-
  The walks: infos read.
-/
import Derived.Test.YtcilkdnbbebjgaaGreatLa11
import Derived.Test.YtcilkdnbbebjgaaGreatF06
import Derived.Test.YtcilkdnbbebjgaaGreatProg
import Derived.KernelRfl
set_option linter.unusedVariables false
set_option linter.unusedSimpArgs false
set_option linter.unusedSectionVars false
set_option maxRecDepth 10000
namespace Cv
open Go Go.Proofs
/-! ## names read from a bale -/
end Cv
set_option maxRecDepth 10000
namespace Cv
open Go Go.Proofs
/-! ## infos read, and their names sought: plain laws -/
structure HalfI (l : List ID32) (z : ID32) (i j : Nat) : Prop where
  le : i ≤ j ∧ j ≤ l.length
  lo : ∀ p, p < i → cfI (gd l p) z < 0
  hi : ∀ p, j ≤ p → p < l.length → ¬ cfI (gd l p) z < 0
theorem asc_gd {l : List ID32} (h : l.Pairwise (fun x y => x.1 < y.1)) {p q : Nat} (hpq : p < q) (hq : q < l.length) : cfI (gd l p) (gd l q) < 0 := by
  have hp : l[p]? = some (gd l p) := gd_get (by omega)
  have hq' : l[q]? = some (gd l q) := gd_get hq
  obtain ⟨h1, e1⟩ := List.getElem?_eq_some_iff.1 hp
  obtain ⟨h2, e2⟩ := List.getElem?_eq_some_iff.1 hq'
  have := List.pairwise_iff_getElem.1 h p q h1 h2 hpq
  rw [e1, e2] at this
  exact cmpB_lt.2 this
theorem HalfI.up {l : List ID32} {z : ID32} {i j h : Nat} (hs : l.Pairwise (fun x y => x.1 < y.1)) (H : HalfI l z i j) (h1 : i ≤ h) (h2 : h < j) (c : cfI (gd l h) z < 0) : HalfI l z (h + 1) j :=
  ⟨⟨by omega, H.le.2⟩, fun p hp => by
    rcases Nat.lt_or_ge p h with a | a
    · exact cmpB_trans (asc_gd hs a (by have := H.le.2; omega)) c
    · have : p = h := by omega
      subst this; exact c, H.hi⟩
theorem HalfI.down {l : List ID32} {z : ID32} {i j h : Nat} (hs : l.Pairwise (fun x y => x.1 < y.1)) (H : HalfI l z i j) (h1 : i ≤ h) (h2 : h < j) (c : ¬ cfI (gd l h) z < 0) : HalfI l z i h :=
  ⟨⟨h1, by have := H.le.2; omega⟩, H.lo, fun p hp hl => by
    rcases Nat.lt_or_ge h p with a | a
    · exact fun k => c (cmpB_trans (asc_gd hs a hl) k)
    · have : p = h := by omega
      subst this; exact c⟩
theorem HalfI.fin {l : List ID32} {z : ID32} {i j : Nat} (hs : l.Pairwise (fun x y => x.1 < y.1)) (H : HalfI l z i j) (e : ¬ i < j) : z ∈ l ↔ i < l.length ∧ cfI (gd l i) z = 0 := by
  have hle := H.le
  constructor
  · intro hz
    obtain ⟨p, hp, hpe⟩ := List.mem_iff_getElem.1 hz
    have hg : l[p]? = some (gd l p) := gd_get hp
    have hz' : gd l p = z := by rw [List.getElem?_eq_getElem hp] at hg; rw [← hpe]; exact (Option.some.inj hg).symm
    have h0 : cfI (gd l p) z = 0 := by rw [hz']; exact cmpB_self _
    rcases Nat.lt_or_ge p i with a | a
    · have := H.lo p a; omega
    · refine ⟨by omega, ?_⟩
      rcases Nat.lt_or_ge i p with b | b
      · have h1 := H.hi i (by omega) (by omega)
        have h2 := asc_gd hs b hp
        rw [hz'] at h2
        exact absurd h2 h1
      · have : p = i := by omega
        subst this; exact h0
  · rintro ⟨h1, h2⟩
    have : gd l i = z := Subtype.ext (cmpB_eq h2)
    rw [← this]
    exact List.mem_of_getElem? (gd_get h1)
theorem zv35 : ∀ w, (zeroValue 35).run Tryz.prog w = .ok (Value.agg #[Value.int .u8 0, Value.int .u8 0, Value.int .u8 0, Value.int .u8 0, Value.int .u8 0, Value.int .u8 0, Value.int .u8 0, Value.int .u8 0, Value.int .u8 0, Value.int .u8 0, Value.int .u8 0, Value.int .u8 0, Value.int .u8 0, Value.int .u8 0, Value.int .u8 0, Value.int .u8 0, Value.int .u8 0, Value.int .u8 0, Value.int .u8 0, Value.int .u8 0, Value.int .u8 0, Value.int .u8 0, Value.int .u8 0, Value.int .u8 0, Value.int .u8 0, Value.int .u8 0, Value.int .u8 0, Value.int .u8 0, Value.int .u8 0, Value.int .u8 0, Value.int .u8 0, Value.int .u8 0, Value.int .i64 0, Value.slice none 0 0]) w := fun w => by kernel_rfl
theorem ze35 : Ze Tryz.prog 35 (Value.int .u8 0 :: Value.int .u8 0 :: Value.int .u8 0 :: Value.int .u8 0 :: Value.int .u8 0 :: Value.int .u8 0 :: Value.int .u8 0 :: Value.int .u8 0 :: Value.int .u8 0 :: Value.int .u8 0 :: Value.int .u8 0 :: Value.int .u8 0 :: Value.int .u8 0 :: Value.int .u8 0 :: Value.int .u8 0 :: Value.int .u8 0 :: Value.int .u8 0 :: Value.int .u8 0 :: Value.int .u8 0 :: Value.int .u8 0 :: Value.int .u8 0 :: Value.int .u8 0 :: Value.int .u8 0 :: Value.int .u8 0 :: Value.int .u8 0 :: Value.int .u8 0 :: Value.int .u8 0 :: Value.int .u8 0 :: Value.int .u8 0 :: Value.int .u8 0 :: Value.int .u8 0 :: Value.int .u8 0 :: Value.int .i64 0 :: Value.slice none 0 0 :: []) := ⟨_, rfl, zv35⟩
theorem bu35 : Bu Tryz.prog 35 (Value.int .u8 0 :: Value.int .u8 0 :: Value.int .u8 0 :: Value.int .u8 0 :: Value.int .u8 0 :: Value.int .u8 0 :: Value.int .u8 0 :: Value.int .u8 0 :: Value.int .u8 0 :: Value.int .u8 0 :: Value.int .u8 0 :: Value.int .u8 0 :: Value.int .u8 0 :: Value.int .u8 0 :: Value.int .u8 0 :: Value.int .u8 0 :: Value.int .u8 0 :: Value.int .u8 0 :: Value.int .u8 0 :: Value.int .u8 0 :: Value.int .u8 0 :: Value.int .u8 0 :: Value.int .u8 0 :: Value.int .u8 0 :: Value.int .u8 0 :: Value.int .u8 0 :: Value.int .u8 0 :: Value.int .u8 0 :: Value.int .u8 0 :: Value.int .u8 0 :: Value.int .u8 0 :: Value.int .u8 0 :: Value.int .i64 0 :: Value.slice none 0 0 :: []) (fun (i : Nat) => ([(0, 33), (33, 1)] : List (Nat × Nat))[i]?) := bu_of Tryz.underlying35 zv35 rfl (fun w => by kernel_rfl)
end Cv
