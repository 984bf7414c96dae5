/-
  The walks: owned trees.
-/
import Derived.Test.YtcilkdnbbebjgaaGreatM05
import Derived.Test.YtcilkdnbbebjgaaGreatN05
import Derived.Test.YtcilkdnbbebjgaaGreatProg
import Derived.KernelRfl
set_option linter.unusedVariables false
set_option linter.unusedSimpArgs false
set_option linter.unusedSectionVars false
set_option maxRecDepth 10000
namespace Cv
open Go Go.Proofs
/-! ## owned trees -/
section
variable {σ : World} {n : Nat} {G : Act → World → Prop} {K : Env} {D M N : List Asn}
end
/-- a contract over what is read, over what is owned -/
theorem Spec.lend {P : Program} {f : FuncId} {args : List Value} {D0 : List Asn} {φ A : Asn} {v : Value} (hi : ∀ z, A z → φ z) (hS : Spec P f args (φ :: D0) [] (fun u D' M' => u = v ∧ D' = [] ∧ M' = [])) : Spec P f args D0 [A] (fun u D' M' => u = v ∧ D' = [] ∧ M' = [A]) where
  fn := hS.fn
  run σ D M w h := by
    obtain ⟨X, Z, h1, h2⟩ := Sat.lend (D := D0 ++ D) (D0 := φ :: D0) (M0 := []) (B := [A]) (F := M) h (fun ψ hψ => by
      cases hψ with
      | head => exact .inr ⟨A, .head _, hi⟩
      | tail _ h' => exact .inl (List.mem_append_left _ h'))
    refine (hS.run σ _ M w h1).mono ?_
    rintro e w' ⟨u, D', M', rfl, ⟨rfl, rfl, rfl⟩, hs⟩
    exact ⟨_, [], [A], rfl, ⟨rfl, rfl, rfl⟩, (h2 [] [] w' hs).facts (fun ψ hψ => List.mem_append_right _ hψ)⟩
/-! ## trees made right -/
theorem countL_perm {xs ys : List Tr} (h : xs.Perm ys) : countL xs = countL ys := by
  induction h with
  | nil => rfl
  | cons x _ ih => simp only [countL, ih]
  | swap x y l => simp only [countL]; omega
  | trans _ _ h1 h2 => exact h1.trans h2
def Sm2 (y : Tr) : Prop := y.n.length ≤ 11 ∧ y.t.length ≤ 300
theorem sm2_all (x : Tr) : TAll Sm2 x → TAll Sm x := Tr.ind (p := fun x => TAll Sm2 x → TAll Sm x) (fun x ih h => .of (fun y hy => ⟨⟨by have := (h.kid hy).1.1; omega, by have := (h.kid hy).1.2; omega⟩, ih y hy (h.kid hy).2⟩)) x
def RGood (x Y : Tr) : Prop := Y.count ≤ x.count ∧ TAll Sm2 Y ∧ Y.t.length ≤ 300
theorem RGood.leaf {x : Tr} {k : Int} {t : List UInt8} (h : t.length ≤ 300) : RGood x (.mk [] k t []) := ⟨by rw [Tr.count_eq, Tr.count_eq x]; simp only [Tr.ks, countL]; omega, tall_leaf, h⟩
/-- how far the entries are made -/
def RI (x : Tr) (i : Nat) (acc : List ET) : Prop := countL (acc.map (·.1)) ≤ countL (x.ks.take i) ∧ ∀ z ∈ acc, Sm2 z.1 ∧ TAll Sm2 z.1
theorem RI.zero (x : Tr) : RI x 0 [] := ⟨by simp [countL], fun z h => by cases h⟩
theorem RI.skip {x y : Tr} {i : Nat} {acc : List ET} (h : RI x i acc) (hy : x.ks[i]? = some y) : RI x (i + 1) acc := ⟨by have := countL_step hy; have := h.1; omega, h.2⟩
theorem RI.snoc {x y : Tr} {i : Nat} {acc : List ET} (h : RI x i acc) (hy : x.ks[i]? = some y) {Y : Tr} (hY : RGood y Y) {m : List UInt8} (hm : m.length ≤ 11) {a : Option Addr} {l c : Nat} : RI x (i + 1) (acc ++ [(Y.named m, a, l, c)]) := by
  refine ⟨?_, fun z hz => ?_⟩
  · have := countL_step hy
    have := h.1
    have := hY.1
    rw [List.map_append, countL_append]
    simp only [List.map_cons, List.map_nil, countL, count_named]
    omega
  · rcases List.mem_append.1 hz with q | q
    · exact h.2 z q
    · simp only [List.mem_singleton] at q
      subst q
      exact ⟨⟨hm, hY.2.2⟩, .of (fun w hw => hY.2.1.kid hw)⟩
theorem RI.of {x : Tr} {i : Nat} {acc ys : List ET} (h : RI x i acc) (hi : x.ks.length ≤ i) (hk : Kp cfN acc ys) : RGood x (ofT ys) := by
  refine ⟨?_, .of (fun w hw => ?_), by simp [ofT, Tr.t]⟩
  · rw [Tr.count_eq, Tr.count_eq x]
    have e : (ofT ys).ks = ys.map (·.1) := rfl
    have := h.1
    rw [e, countL_perm (hk.sm.perm.map _)]
    rw [countL_all hi] at this
    omega
  · obtain ⟨z, hz, rfl⟩ := List.mem_map.1 (show w ∈ ys.map (·.1) from hw)
    exact h.2 z (hk.sm.sub z hz)
def V5 (lm : List (List UInt8 × Int)) (i : Nat) : Prop := ∀ k v, look lm k = some v → 0 ≤ v ∧ v ≤ i
theorem V5.zero : V5 [] 0 := fun k v h => by cases h
theorem V5.get {lm : List (List UInt8 × Int)} {i : Nat} (h : V5 lm i) (k : List UInt8) : 0 ≤ (look lm k).getD 0 ∧ (look lm k).getD 0 ≤ i := by
  cases e : look lm k with
  | none => simp
  | some v => exact h k v e
theorem V5.put {lm : List (List UInt8 × Int)} {i : Nat} (h : V5 lm i) (k : List UInt8) : V5 (put lm k ((look lm k).getD 0 + 1)) (i + 1) := fun k' v hv => by
  rw [look_put] at hv
  split at hv
  · have := h.get k
    cases hv
    omega
  · have := h k' v hv
    omega
theorem T.etsSnoc {σ : World} {n : Nat} {G : Act → World → Prop} {K : Env} {D M : List Asn} {xs : List ET} {Y : Tr} {m : List UInt8} {a : Option Addr} {l c : Nat} (e1 : etsA xs ∈ D) (e2 : rtr (Y.named m) (eRow (Y.named m) a l c) ∈ D) (next : T σ n G K (etsA (xs ++ [(Y.named m, a, l, c)]) :: D) M) : T σ n G K D M :=
  T.facts2 e1 e2 etsA_mono rtr_mono (fun z H1 H2 q hq => by
    rcases List.mem_append.1 hq with q' | q'
    · exact H1 q q'
    · simp only [List.mem_singleton] at q'
      subst q'
      exact H2) next
theorem take_snoc {α : Type} {l : List α} {i : Nat} {y : α} (h : l[i]? = some y) : l.take i ++ [y] = l.take (i + 1) := by
  rw [List.take_add_one, h]; rfl


end Cv
set_option maxRecDepth 10000
namespace Cv
open Go Go.Proofs
/-! ## the item by names -/
def fiT (ks : List Tr) (s : List UInt8) : Option Tr := ks.find? (fun y => decide (y.n = s))
def atT : Tr → List (List UInt8) → Option Tr
  | x, [] => some x
  | x, s :: ss => match fiT x.ks s with | none => none | some y => atT y ss
def AtR (x : Tr) (ss : List (List UInt8)) (z : Tr) (e : Int) : Prop := (atT x ss = some z ∧ e = 0) ∨ (atT x ss = none ∧ e = 7 ∧ z.k = 0)
/-! ### in a tree that may be each name is one item's -/
theorem chkE_T {x : Tr} (h : chkE x = 0) : (chkT x 1).2 = 0 := by
  unfold chkE at h
  split at h
  · simp at h
  · exact h
theorem AtR.get {x z y : Tr} {ss : List (List UInt8)} {e : Int} (h : AtR x ss z e) (k : atT x ss = some y) : y = z ∧ e = 0 := by
  rcases h with ⟨h1, h2⟩ | ⟨h1, _⟩
  · rw [k] at h1; cases h1; exact ⟨rfl, h2⟩
  · rw [k] at h1; cases h1
end Cv
