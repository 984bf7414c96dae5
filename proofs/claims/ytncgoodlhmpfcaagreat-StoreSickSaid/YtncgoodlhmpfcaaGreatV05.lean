/-
  The walks: owned trees.
-/
import Derived.Test.YtncgoodlhmpfcaaGreatN05
set_option linter.all false
set_option maxRecDepth 10000
namespace Cv
open Go Go.Proofs
/-! ## owned trees -/
section
variable {σ : World} {n : Nat} {G : Act → World → Prop} {K : Env} {D M N : List Asn}
end
theorem Spec.lend {P : Program} {f : FuncId} {args : List Value} {D0 : List Asn} {φ A : Asn} {v : Value} (hi : ∀ z, A z → φ z) (hS : Spec P f args (φ :: D0) [] (fun u D' M' => u = v ∧ D' = [] ∧ M' = [])) : Spec P f args D0 [A] (fun u D' M' => u = v ∧ D' = [] ∧ M' = [A]) where
  fn := hS.fn
  run σ D M w h := by
    obtain ⟨X, Z, h1, h2⟩ := Sat.lend (D := D0 ++ D) (D0 := φ :: D0) (M0 := []) (B := [A]) (F := M) h (fun ψ hψ => by
      cases hψ with
      | head => exact .inr ⟨A, .head _, hi⟩
      | tail _ h' => exact .inl (List.mem_append_left _ h'))
    refine (hS.run σ _ M w h1).mono ?_
    rintro e w' ⟨u, D', M', rfl, ⟨rfl, rfl, rfl⟩, hs⟩
    exact ⟨_, [], [A], R, ⟨R, R, R⟩, (h2 [] [] w' hs).facts (fun ψ hψ => List.mem_append_right _ hψ)⟩
/-! ## trees made right -/
def Sm2 (y : Tr) : Prop := y.n.length ≤ 11 ∧ y.t.length ≤ 300
theorem T.etsSnoc {σ : World} {n : Nat} {G : Act → World → Prop} {K : Env} {D M : List Asn} {xs : List ET} {Y : Tr} {m : List UInt8} {a : Option Addr} {l c : Nat} (e1 : etsA xs ∈ D) (e2 : rtr (Y.named m) (eRow (Y.named m) a l c) ∈ D) (next : T σ n G K (etsA (xs ++ [(Y.named m, a, l, c)]) :: D) M) : T σ n G K D M :=
  T.facts2 e1 e2 etsA_mono rtr_mono (fun z H1 H2 q hq => by
    rcases List.mem_append.1 hq with q' | q'
    · exact H1 q q'
    · simp only [List.mem_singleton] at q'
      subst q'
      exact H2) next
theorem take_snoc {α : Type} {l : List α} {i : Nat} {y : α} (h : l[i]? = some y) : l.take i ++ [y] = l.take (i + 1) := by
  rw [List.take_add_one, h]; rfl


end Cv
set_option maxRecDepth 10000
namespace Cv
open Go Go.Proofs
/-! ## the item by names -/
@[reducible] def sr (s : List UInt8) : List Value := [S s]
/-! ### in a tree that may be each name is one item's -/
theorem chkE_T {x : Tr} (h : chkE x = 0) : (chkT x 1).2 = 0 := by
  unfold chkE at h
  split at h
  · simp at h
  · exact h
end Cv
