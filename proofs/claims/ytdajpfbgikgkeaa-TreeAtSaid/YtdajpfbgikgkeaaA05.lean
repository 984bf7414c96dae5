/-
  The walks: how many items a tree has.
-/
import Derived.Test.YtdajpfbgikgkeaaFA05
import Derived.Test.YtdajpfbgikgkeaaProg
import Derived.KernelRfl
set_option maxRecDepth 10000
set_option linter.unusedSimpArgs false
set_option linter.unusedVariables false
namespace Cv
open Go Go.Proofs
/-! ## trees: how many, and whether they may be -/
mutual
def Tr.count : Tr → Nat
  | .mk _ _ _ ks => 1 + countL ks
def countL : List Tr → Nat
  | [] => 0
  | y :: ys => y.count + countL ys
end
theorem Tr.count_eq (x : Tr) : x.count = 1 + countL x.ks := by cases x; rw [Tr.count]; rfl
theorem countL_append : ∀ (xs ys : List Tr), countL (xs ++ ys) = countL xs + countL ys
  | [], ys => by simp [countL]
  | x :: xs, ys => by rw [List.cons_append, countL, countL, countL_append xs ys]; omega
theorem countL_step {ks : List Tr} {i : Nat} {y : Tr} (h : ks[i]? = some y) : countL (ks.take (i + 1)) = countL (ks.take i) + y.count ∧ countL (ks.take (i + 1)) ≤ countL ks := by
  have e : countL ks = countL (ks.take (i + 1)) + countL (ks.drop (i + 1)) := by rw [← countL_append, List.take_append_drop]
  rw [List.take_add_one, h] at *
  simp only [Option.toList_some, countL_append, countL] at *
  omega
theorem countL_all {ks : List Tr} {i : Nat} (h : ks.length ≤ i) : countL (ks.take i) = countL ks := by rw [List.take_of_length_le h]
theorem kid_mem {ks : List Tr} {i : Nat} {y : Tr} (h : ks[i]? = some y) : y ∈ ks := List.mem_of_getElem? h
theorem count_pos (x : Tr) : 0 < x.count := by rw [Tr.count_eq]; omega
theorem count_le_len : ∀ ks : List Tr, ks.length ≤ countL ks
  | [] => by simp [countL]
  | y :: ys => by have := count_pos y; have := count_le_len ys; simp [countL]; omega

def CountS (x : Tr) : Prop := ∀ (a : Option Addr) (len cap : Nat), (x.count ≤ 1000000) → Spec Try.prog 19 [.agg (iRow x a len cap).toArray] [rtr x (eRow x a len cap)] [] (fun v D' M' => v = .int .i64 (x.count : Int) ∧ D' = [] ∧ M' = [])
set_option maxHeartbeats 400000 in
theorem count_spec_step (x : Tr) (ih : ∀ y ∈ x.ks, CountS y) (a : Option Addr) (len cap : Nat) (hc : x.count ≤ 1000000) : Spec Try.prog 19 [.agg (iRow x a len cap).toArray] [rtr x (eRow x a len cap)] [] (fun v D' M' => v = .int .i64 (x.count : Int) ∧ D' = [] ∧ M' = []) := by
  refine Spec.intro (n := 20) Try.func19 rfl rfl (by decide) (Nat.le_of_ble_eq_true rfl) rfl (fun _ => qA) (fun _ => qA) ?_
  intro σ D M
  refine T.trOpenR qM (fun rows hkl hrl => ?_)
  subst hkl
  refine T.kidRows qM (fun hrw => ?_)
  have hce := x.count_eq
  have hcl := count_le_len x.ks
  refine T.seq ?_
  refine T.region ?_
  refine L.box rfl rfl rfl (fun b1 => ?_)
  refine L.assign rfl rfl ?_
  refine L.nil ?_
  refine T.thenN ?_
  refine T.seq ?_
  refine T.region ?_
  refine L.assign rfl rfl ?_
  refine L.nil ?_
  refine T.thenN ?_
  refine T.seq ?_
  refine T.seq ?_
  refine T.region ?_
  first | refine L.field0 rfl fo24_2 rfl ?_ | refine L.field rfl fo24_2 rfl ?_
  refine L.load rfl sc22 rfl qC ?_
  refine L.lenSl rfl Try.underlying22 rfl ?_
  refine L.move rfl rfl ?_
  refine L.nil ?_
  refine T.thenN ?_
  refine T.block ?_
  refine T.loop (fun K' D' M' μ => ∃ (i c : Nat), (i ≤ x.ks.length ∧ c = 1 + countL (x.ks.take i)) ∧ K' = [(9, .int .i64 i), (3, .int .i64 (c : Int))] ∧ D' = [] ∧ M' = [] ∧ μ = x.ks.length - i) (.cons (t := 7) rfl <| .cons (t := 8) rfl <| SubK.nil _) (⟨0, 1, ⟨by omega, by simp [countL]⟩, rfl, rfl, rfl, rfl⟩) (.cons (t := 9) rfl <| .cons (t := 3) rfl <| SubK.nil _) qD qS ?_
  rintro K1 D1 M1 m1 ⟨i, c, ⟨hi, hcc⟩, rfl, rfl, rfl, rfl⟩
  refine T.norm3 qA qA qA ?_
  refine T.seq ?_
  refine T.region ?_
  refine L.ltI rfl rfl rfl ?_
  refine L.nil ?_
  refine T.thenN ?_
  refine T.seq ?_
  refine T.cond rfl (fun h10 => ?_) (fun h10 => ?_)
  · try simp only [decide_eq_true_eq, decide_eq_false_iff_not, Bool.not_eq_true', Bool.not_eq_false', Bool.and_eq_true, Bool.or_eq_true] at h10
    refine T.skip ?_
    refine T.thenN ?_
    refine T.seq ?_
    refine T.block ?_
    refine T.seq ?_
    have hy : x.ks[i]? = some (gd x.ks i) := gd_get (by omega)
    obtain ⟨y, hyy⟩ : ∃ y, y = gd x.ks i := ⟨_, rfl⟩
    rw [← hyy] at hy
    refine T.kidOpen qM hy (fun ka kl kc hr => ?_)
    have hcs := countL_step hy
    refine T.region ?_
    refine L.idx (i := i) rfl Try.underlying22 sz36 rfl rfl qM (by first | rfl | omega | (simp; done)) qG (fun b11 o11 => ?_)
    refine L.loadA rfl ag36 rfl qN ?_
    refine L.alloc rfl ze36 (fun b5 => ?_)
    refine L.storeA ag36 rfl rfl qL qO qU qW ?_
    refine L.nil ?_
    refine T.thenN ?_
    refine T.region ?_
    refine L.move rfl rfl ?_
    first | refine L.field0 rfl fo36_1 rfl ?_ | refine L.field rfl fo36_1 rfl ?_
    refine L.loadA rfl ag24 rfl qN ?_
    refine L.call rfl (evs.cons rfl <| evs.nil) qD qS (ih y (kid_mem hy) ka kl kc (by omega)) ?_
    rintro _ _ _ ⟨rfl, rfl, rfl⟩
    refine L.norm qA qA ?_
    refine L.addN rfl rfl rfl (by omega) ?_
    refine L.assign rfl rfl ?_
    refine L.nil ?_
    refine T.blkN ?_
    refine T.thenN ?_
    refine T.region ?_
    refine L.addN rfl rfl rfl (by omega) ?_
    refine L.move rfl rfl ?_
    refine L.nil ?_
    refine T.thenN ?_
    exact T.back ⟨i + 1, c + y.count, ⟨by omega, by omega⟩, rfl, rfl, rfl, rfl⟩ qI (.cons (t := 9) rfl <| .cons (t := 3) rfl <| SubK.nil _) (.cons (t := 7) rfl <| .cons (t := 8) rfl <| SubK.nil _) qD qD qF
  · try simp only [decide_eq_true_eq, decide_eq_false_iff_not, Bool.not_eq_true', Bool.not_eq_false', Bool.and_eq_true, Bool.or_eq_true] at h10
    obtain rfl : i = x.ks.length := by omega
    rw [countL_all (Nat.le_refl _)] at hcc
    refine T.exit ?_
    refine T.thenX ?_
    refine T.thenX ?_
    refine T.blkX ?_
    refine T.thenN ?_
    refine T.seq ?_
    refine T.region ?_
    refine L.move rfl rfl ?_
    refine L.assign rfl rfl ?_
    refine L.nil ?_
    refine T.thenN ?_
    refine T.ret ?_
    exact T.ret1 rfl rfl ⟨congrArg (Value.int .i64) (by omega), rfl, rfl⟩ qD qF
theorem count_spec (x : Tr) : CountS x := Tr.ind (p := CountS) (fun x ih a len cap hc => count_spec_step x ih a len cap hc) x
end Cv
