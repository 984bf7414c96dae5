/-
  My own library for walks, a text of it (CvCut): separation logic over the kit's Calls; no statement of this seat stands here.
-/
import Derived.Test.YtdajpfbgikgkeaaCvDraw
import Derived.Test.YtdajpfbgikgkeaaCvArr
set_option linter.unusedVariables false
set_option linter.unusedSimpArgs false
set_option linter.unusedSectionVars false
namespace Cv
open Go
section
variable {P : Program} {σ : World} {n : Nat} {G : Act → World → Prop} {Q : Post} {K : Env} {D M : List Asn}
/-- where ways meet again -/
def Join (σ : World) (n : Nat) (I : Env → List Asn → List Asn → Prop) (Kk : Env) (D F : List Asn) : Act → World → Prop := fun a w =>
  ∃ K' D' M', I K' D' M' ∧ Slots n (K' ++ Kk) a ∧ Sat σ (D' ++ D) (M' ++ F) w
theorem T.cutC {c : Code} (I : Env → List Asn → List Asn → Prop) {Kk : Env} {M0 F : List Asn} (hk : SubK Kk K) (hM : Sel M0 M F)
    (body : T σ n (c.wp P (Exit.then (Join σ n I Kk D F) Q)) K D M)
    (rest : ∀ K' D' M', I K' D' M' → T σ n (Q .normal) (K' ++ Kk) (D' ++ D) (M' ++ F)) : T σ n (c.wp P Q) K D M := fun a w s t =>
  Code.wp_mono (fun e a w h => by
    cases e with
    | normal => obtain ⟨K', D', M', hI, hs, ht⟩ := h; exact rest K' D' M' hI a w hs ht
    | exit id => exact h
    | goto l => exact h
    | ret => exact h
    | panic c => exact h
    | outgrown => exact h) (body a w s t)
theorem T.toJoin {I : Env → List Asn → List Asn → Prop} {Kk : Env} {D0 F : List Asn} {K' : Env} {D' M' : List Asn} (hI : I K' D' M')
    (hK : SubK K' K) (hk : SubK Kk K) (hD : SubD D' D) (hd : SubD D0 D) (hM : Ent M (M' ++ F)) : T σ n (Join σ n I Kk D0 F) K D M := fun _ _ s t =>
  ⟨K', D', M', hI, s.sub (hK.append hk), (t.facts (SubD.append hD hd)).ent hM⟩
end
end Cv
