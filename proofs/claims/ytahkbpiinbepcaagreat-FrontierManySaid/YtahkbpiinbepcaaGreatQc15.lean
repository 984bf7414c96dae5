/-
  The walks: whole paths.
-/
import Derived.Test.YtahkbpiinbepcaaGreatBB15
import Derived.Test.YtahkbpiinbepcaaGreatProg
import Derived.KernelRfl
set_option linter.unusedVariables false
set_option linter.unusedSimpArgs false
set_option linter.unusedSectionVars false
set_option maxRecDepth 10000
namespace Cv
open Go Go.Proofs
/-! ## whole paths -/
def fstE (f : Pt → Int) : List Pt → Int
  | [] => 0
  | p :: ps => if f p ≠ 0 then f p else fstE f ps
theorem fstE_congr {f g : Pt → Int} : ∀ {ps : List Pt}, (∀ y ∈ ps, f y = g y) → fstE f ps = fstE g ps
  | [], _ => rfl
  | q :: ps, h => by rw [fstE, fstE, h q (by simp), fstE_congr fun y hy => h y (by simp [hy])]
def whF (os : List Ob) : Nat → Int → Pt → Int
  | 0, _, _ => 0
  | f + 1, lv, p =>
    match goF os p.1 with
    | none => 7
    | some o =>
      if lv = 0 then (if o.1 ≠ 1 ∨ ((o.2.2.length : Nat) : Int) ≠ p.2 then 2 else 0)
      else if o.1 ≠ 2 then 2
      else if (nodR o.2.2).2.2 ≠ 0 then (nodR o.2.2).2.2
      else if (0 < lv ∧ (((nodR o.2.2).1 : Nat) : Int) ≠ lv) ∨ sizeP (nodR o.2.2).2.1 ≠ p.2 then 2
      else fstE (whF os f ((((nodR o.2.2).1 : Nat) : Int) - 1)) (nodR o.2.2).2.1
def Enf (f : Nat) (lv : Int) : Prop := (0 ≤ lv ∧ lv < f) ∨ (lv = -1 ∧ 10 ≤ f)
theorem whF_eq (os : List Ob) : ∀ (f g : Nat) (lv : Int) (p : Pt), Enf f lv → Enf g lv → whF os f lv p = whF os g lv p
  | 0, g, lv, p, h, _ => by unfold Enf at h; omega
  | f + 1, 0, lv, p, _, h => by unfold Enf at h; omega
  | f + 1, g + 1, lv, p, h, k => by
    unfold Enf at h k
    rw [whF, whF]
    cases goF os p.1 with
    | none => rfl
    | some o =>
      by_cases c0 : lv = 0
      · simp only [if_pos c0]
      · simp only [if_neg c0]
        split
        · rfl
        · split
          · rfl
          · rename_i c1 c2
            split
            · rfl
            · rename_i c3
              have hk := chkN_0 (nodR_ok (Decidable.not_not.1 c2))
              refine fstE_congr fun q hq => whF_eq os f g _ q ?_ ?_
              · unfold Enf; omega
              · unfold Enf; omega
def wh (os : List Ob) (lv : Int) (p : Pt) : Int := whF os 10 lv p
theorem wh_none {os : List Ob} {lv : Int} {p : Pt} (h : goF os p.1 = none) : wh os lv p = 7 := by
  unfold wh; rw [whF, h]
theorem wh_0 {os : List Ob} {p : Pt} {o : Ob} (h : goF os p.1 = some o) : wh os 0 p = if o.1 ≠ 1 ∨ ((o.2.2.length : Nat) : Int) ≠ p.2 then 2 else 0 := by
  unfold wh; rw [whF, h]; simp only [if_pos]
theorem wh_n {os : List Ob} {lv : Int} {p : Pt} {o : Ob} {z : Nat × List Pt × Int} (hl : -1 ≤ lv ∧ lv ≤ 8) (h : goF os p.1 = some o) (h0 : lv ≠ 0) (h2 : o.1 = 2) (hz : z = nodR o.2.2) (he : z.2.2 = 0) (hs : ¬ ((0 < lv ∧ ((z.1 : Nat) : Int) ≠ lv) ∨ sizeP z.2.1 ≠ p.2)) : wh os lv p = fstE (wh os (((z.1 : Nat) : Int) - 1)) z.2.1 := by
  subst hz
  have hk := chkN_0 (nodR_ok he)
  unfold wh; rw [whF, h]; simp only [if_neg h0, if_neg (show ¬ o.1 ≠ 2 from fun q => q h2), if_neg (show ¬ (nodR o.2.2).2.2 ≠ 0 from fun q => q he), if_neg hs]
  refine fstE_congr fun q _ => whF_eq os 9 10 _ q ?_ ?_
  · unfold Enf; omega
  · unfold Enf; omega
theorem at_pt (p : Pt) (a : Option Addr) (n c : Nat) : AtN 33 (inC p a n c) 0 (ptC p) := by
  rw [show inC p a n c = ptC p ++ [.slice a n c] from by simp]; exact AtN.left (ptC_len p)

end Cv
