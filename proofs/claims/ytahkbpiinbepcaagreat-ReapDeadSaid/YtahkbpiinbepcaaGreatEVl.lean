/-
  What is evaluated: the gear table, the chunks, the names of the objects of the eight paths.
-/
import Derived.Test.YtahkbpiinbepcaaGreatEG0
import Derived.Test.YtahkbpiinbepcaaGreatEG1
import Derived.Test.YtahkbpiinbepcaaGreatEG2
import Derived.Test.YtahkbpiinbepcaaGreatEG3
set_option linter.unusedVariables false
set_option linter.unusedSimpArgs false
set_option linter.unusedSectionVars false
set_option maxRecDepth 100000
namespace Cv
open Go
def gearL : List Int := gl0 ++ gl1 ++ gl2 ++ gl3 ++ gl4 ++ gl5 ++ gl6 ++ gl7
theorem gear_lit : gearT seedS = gearL := by
  unfold gearT gearL
  rw [show List.range 256 = List.range' 0 32 ++ List.range' 32 32 ++ List.range' 64 32 ++ List.range' 96 32 ++ List.range' 128 32 ++ List.range' 160 32 ++ List.range' 192 32 ++ List.range' 224 32 from by decide +kernel]
  simp only [List.map_append, gl0_eq, gl1_eq, gl2_eq, gl3_eq, gl4_eq, gl5_eq, gl6_eq, gl7_eq]
def ln0 : List Nat := [32, 16]
theorem ln0_eq : lens gearL 0 0 (mdW 0) = ln0 := by decide +kernel
def ln1 : List Nat := [32, 53]
theorem ln1_eq : lens gearL 0 0 (mdW 1) = ln1 := by decide +kernel
def ln2 : List Nat := [82, 114]
theorem ln2_eq : lens gearL 0 0 (mdW 2) = ln2 := by decide +kernel
def ln3 : List Nat := [117, 73, 50, 50, 92]
theorem ln3_eq : lens gearL 0 0 (mdW 3) = ln3 := by decide +kernel
def ln4 : List Nat := [98, 104, 36, 73, 118, 74, 106, 32]
theorem ln4_eq : lens gearL 0 0 (mdW 4) = ln4 := by decide +kernel
def ln5 : List Nat := [51, 89, 134, 116, 101, 97, 134, 116, 101, 35]
theorem ln5_eq : lens gearL 0 0 (mdW 5) = ln5 := by decide +kernel
def ln6 : List Nat := [103, 97, 99, 107, 108, 97, 101, 51, 107, 109, 128, 61, 99, 114]
theorem ln6_eq : lens gearL 0 0 (mdW 6) = ln6 := by decide +kernel
def ln7 : List Nat := [123, 87, 131, 96, 115, 119, 109, 133, 48, 101, 85, 169, 104, 32, 115, 109, 133, 48, 5]
theorem ln7_eq : lens gearL 0 0 (mdW 7) = ln7 := by decide +kernel
end Cv
