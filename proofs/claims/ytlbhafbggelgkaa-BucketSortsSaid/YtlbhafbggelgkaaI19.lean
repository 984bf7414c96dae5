/-
  The names of the 64 addresses differ.
-/
import Derived.Test.YtlbhafbggelgkaaS19
set_option maxRecDepth 10000
set_option linter.unusedVariables false
namespace Cv
open Go
/-! ## the names of addresses differ -/
theorem idt0 : (List.range' 0 8).map (fun n : Nat => (oidF 4 [kb n]).take 2) = [[26, 51], [220, 249], [107, 117], [131, 239], [94, 174], [216, 90], [43, 75], [231, 144]] := by decide +kernel
theorem idt1 : (List.range' 8 8).map (fun n : Nat => (oidF 4 [kb n]).take 2) = [[111, 162], [237, 120], [97, 51], [252, 57], [72, 197], [17, 52], [88, 68], [58, 168]] := by decide +kernel
theorem idt2 : (List.range' 16 8).map (fun n : Nat => (oidF 4 [kb n]).take 2) = [[36, 159], [109, 63], [58, 152], [107, 172], [78, 71], [2, 150], [207, 128], [206, 104]] := by decide +kernel
theorem idt3 : (List.range' 24 8).map (fun n : Nat => (oidF 4 [kb n]).take 2) = [[21, 105], [51, 57], [189, 66], [53, 80], [58, 86], [147, 225], [46, 37], [223, 28]] := by decide +kernel
theorem idt4 : (List.range' 32 8).map (fun n : Nat => (oidF 4 [kb n]).take 2) = [[246, 203], [213, 172], [103, 202], [146, 158], [80, 46], [44, 85], [79, 193], [104, 248]] := by decide +kernel
theorem idt5 : (List.range' 40 8).map (fun n : Nat => (oidF 4 [kb n]).take 2) = [[100, 131], [210, 61], [10, 139], [133, 99], [220, 166], [249, 207], [73, 252], [122, 88]] := by decide +kernel
theorem idt6 : (List.range' 48 8).map (fun n : Nat => (oidF 4 [kb n]).take 2) = [[156, 203], [254, 104], [133, 117], [106, 48], [107, 55], [32, 83], [222, 14], [223, 99]] := by decide +kernel
theorem idt7 : (List.range' 56 8).map (fun n : Nat => (oidF 4 [kb n]).take 2) = [[233, 89], [111, 6], [182, 230], [81, 201], [85, 230], [192, 236], [109, 50], [148, 239]] := by decide +kernel
def ids2 : List (List UInt8) := [[26, 51], [220, 249], [107, 117], [131, 239], [94, 174], [216, 90], [43, 75], [231, 144], [111, 162], [237, 120], [97, 51], [252, 57], [72, 197], [17, 52], [88, 68], [58, 168], [36, 159], [109, 63], [58, 152], [107, 172], [78, 71], [2, 150], [207, 128], [206, 104], [21, 105], [51, 57], [189, 66], [53, 80], [58, 86], [147, 225], [46, 37], [223, 28], [246, 203], [213, 172], [103, 202], [146, 158], [80, 46], [44, 85], [79, 193], [104, 248], [100, 131], [210, 61], [10, 139], [133, 99], [220, 166], [249, 207], [73, 252], [122, 88], [156, 203], [254, 104], [133, 117], [106, 48], [107, 55], [32, 83], [222, 14], [223, 99], [233, 89], [111, 6], [182, 230], [81, 201], [85, 230], [192, 236], [109, 50], [148, 239]]
theorem ids_all : (List.range 64).map (fun n : Nat => (idF n).take 2) = ids2 := by
  have e : List.range 64 = List.range' 0 8 ++ List.range' 8 8 ++ List.range' 16 8 ++ List.range' 24 8 ++ List.range' 32 8 ++ List.range' 40 8 ++ List.range' 48 8 ++ List.range' 56 8 := by decide
  have e2 : (fun n : Nat => (idF n).take 2) = fun n : Nat => (oidF 4 [kb n]).take 2 := by funext n; rw [idF_eq2]
  rw [e, e2]
  simp only [List.map_append, idt0, idt1, idt2, idt3, idt4, idt5, idt6, idt7]
  rfl
theorem ids_nodup : ids2.Nodup := by decide
theorem idF_inj {x y : Int} (hx : 0 ≤ x ∧ x < 64) (hy : 0 ≤ y ∧ y < 64) (h : idF x = idF y) : x = y := by
  have hg : ∀ {z : Int}, 0 ≤ z ∧ z < 64 → ids2[z.toNat]? = some ((idF z).take 2) := fun {z} hz => by
    rw [← ids_all, List.getElem?_map, List.getElem?_range (by omega)]
    simp only [Option.map_some]
    rw [show ((z.toNat : Nat) : Int) = z from by omega]
  have h1 := hg hx
  have h2 := hg hy
  rw [← h] at h2
  have hl : ids2.length = 64 := rfl
  obtain ⟨p1, q1⟩ := List.getElem?_eq_some_iff.1 h1
  obtain ⟨p2, q2⟩ := List.getElem?_eq_some_iff.1 h2
  have hp := List.pairwise_iff_getElem.1 ids_nodup
  rcases Nat.lt_trichotomy x.toNat y.toNat with c | c | c
  · exact absurd (q1.trans q2.symm) (hp _ _ p1 p2 c)
  · omega
  · exact absurd (q2.trans q1.symm) (hp _ _ p2 p1 c)
theorem near_step {g : List UInt8} {few ys : List Int} {i : Nat} (hg : g.length = 32) (h : SortedBy (cfG g) few ys) (hn : few.Nodup) (hr : InR few) (h1 : 1 ≤ i) (hi : i < ys.length) : cmpB (xorL g (idF (gd ys (i - 1)))) (xorL g (idF (gd ys i))) < 0 := by
  have hnd : ys.Nodup := h.1.nodup_iff.2 hn
  have ha : ys[i - 1]'(by omega) = gd ys (i - 1) := by simp [gd, show i - 1 < ys.length by omega]
  have hb : ys[i] = gd ys i := by simp [gd, hi]
  have hs := List.pairwise_iff_getElem.1 h.2 (i - 1) i (by omega) hi (by omega)
  have hne := List.pairwise_iff_getElem.1 hnd (i - 1) i (by omega) hi (by omega)
  rw [ha, hb] at hs hne
  have ra := hr _ (h.1.mem_iff.1 (List.mem_of_getElem? (gd_get (l := ys) (i := i - 1) (by omega))))
  have rb := hr _ (h.1.mem_iff.1 (List.mem_of_getElem? (gd_get (l := ys) (i := i) hi)))
  have hlt : cfG g (gd ys (i - 1)) (gd ys i) < 0 := by
    by_cases q : cfG g (gd ys (i - 1)) (gd ys i) < 0
    · exact q
    · exact absurd (cfG_total q hs) hne
  rw [cfG_lt] at hlt
  rcases hlt with q | ⟨q, _⟩
  · exact q
  · exact absurd (idF_inj ra rb (xor_cancel hg (idF_len _) (idF_len _) (cmpB_eq q))) hne
end Cv
