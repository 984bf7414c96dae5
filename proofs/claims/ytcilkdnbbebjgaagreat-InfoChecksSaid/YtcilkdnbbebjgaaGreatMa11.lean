/-
  The walks: infos read.
-/
import Derived.Test.YtcilkdnbbebjgaaGreatLa11
import Derived.Test.YtcilkdnbbebjgaaGreatF06
import Derived.Test.YtcilkdnbbebjgaaGreatProg
import Derived.KernelRfl
set_option linter.unusedVariables false
set_option linter.unusedSimpArgs false
set_option linter.unusedSectionVars false
set_option maxRecDepth 10000
namespace Cv
open Go Go.Proofs
/-! ## names read from a bale -/
def idR (b : Bl) : ID32 × Bl := (if h : (bytB b 32).1.length = 32 then ⟨(bytB b 32).1, h⟩ else zID, (bytB b 32).2)
theorem byt_or (b : Bl) : (bytB b 32).1 = [] ∨ (bytB b 32).1.length = 32 := by
  unfold bytB
  split
  · exact .inl rfl
  · split
    · exact .inl rfl
    · refine .inr ?_
      rename_i h
      show (b.left.take (32 : Int).toNat).length = 32
      rw [List.length_take]
      have : (32 : Int).toNat = 32 := rfl
      omega
theorem id_set (b : Bl) : SetAt ((List.replicate 32 (0 : UInt8)).map Y) 0 (((bytB b 32).1.take (Nat.min (bytB b 32).1.length 32)).map Y) ((idR b).1.1.map Y) := by
  rcases byt_or b with h | h
  · have e : (idR b).1 = zID := by unfold idR; rw [dif_neg (by rw [h]; decide)]
    rw [e, h]; exact SetAt.none
  · have e : (idR b).1.1 = (bytB b 32).1 := by unfold idR; rw [dif_pos h]
    rw [e, h, show Nat.min 32 32 = 32 from rfl, List.take_of_length_le (by omega)]
    exact SetAt.whole (by rw [List.length_map, List.length_map, h]; rfl)
def idsL : Nat → Bl → List ID32 × Bl
  | 0, b => ([], b)
  | n + 1, b => if b.err ≠ 0 then ([], b) else ((idR b).1 :: (idsL n (idR b).2).1, (idsL n (idR b).2).2)
def idsF (b : Bl) (top : Nat) : List ID32 × Bl := (if (idsL (intR b top).1 (intR b top).2).2.err ≠ 0 then [] else (idsL (intR b top).1 (intR b top).2).1, (idsL (intR b top).1 (intR b top).2).2)
theorem idsL_len : ∀ (n : Nat) (b : Bl), (idsL n b).1.length ≤ n
  | 0, _ => Nat.le_refl _
  | n + 1, b => by
    rw [idsL]
    split
    · simp
    · have := idsL_len n (idR b).2
      simp only [List.length_cons]; omega
structure IdsI (b : Bl) (n j : Nat) (q : Bl) (acc : List ID32) : Prop where
  r1 : (idsL n b).1 = acc ++ (idsL j q).1
  r2 : (idsL n b).2 = (idsL j q).2
  len : acc.length + j = n
theorem IdsI.start {b : Bl} {n : Nat} : IdsI b n n b [] := ⟨rfl, rfl, Nat.zero_add _⟩
theorem IdsI.next {b q : Bl} {n j : Nat} {acc : List ID32} (h : IdsI b n (j + 1) q acc) (e : q.err = 0) : IdsI b n j (idR q).2 (acc ++ [(idR q).1]) := by
  obtain ⟨h1, h2, h3⟩ := h
  rw [idsL, if_neg (fun k => k e)] at h1 h2
  exact ⟨by rw [h1]; simp, h2, by rw [List.length_append]; simp only [List.length_singleton]; omega⟩
theorem IdsI.stop {b q : Bl} {n j : Nat} {acc : List ID32} (h : IdsI b n j q acc) (e : j = 0 ∨ q.err ≠ 0) : idsL n b = (acc, q) := by
  obtain ⟨h1, h2, h3⟩ := h
  have : idsL j q = ([], q) := by
    cases j with
    | zero => rfl
    | succ j => rw [idsL, if_pos (by rcases e with e | e <;> first | omega | exact e)]
  rw [this] at h1 h2
  exact Prod.ext (by rw [h1]; simp) h2
def parZ (s : List UInt8) : (ID32 × Bl) × (Nat × Bl) × (List ID32 × Bl) := (idR ⟨s, 0⟩, intR (idR ⟨s, 0⟩).2 32768, idsF (intR (idR ⟨s, 0⟩).2 32768).2 8)
def parI (s : List UInt8) : Pt × List ID32 × Int :=
  if closeE (parZ s).2.2.2 ≠ 0 then (zP, [], closeE (parZ s).2.2.2)
  else if chkI ((parZ s).1.1, ((parZ s).2.1.1 : Int)) (parZ s).2.2.1 ≠ 0 then (zP, [], chkI ((parZ s).1.1, ((parZ s).2.1.1 : Int)) (parZ s).2.2.1)
  else (((parZ s).1.1, ((parZ s).2.1.1 : Int)), (parZ s).2.2.1, 0)

set_option maxHeartbeats 400000 in
theorem bid_spec {bb : Nat} {b : Bl}  : Spec Tryz.prog 49 [.pointer (some ⟨bb, 0, none⟩)] [] [cl bb 165 (blR (b))] (fun v D' M' => v = .agg (iC (idR b).1).toArray ∧ D' = [] ∧ M' = [cl bb 165 (blR ((idR b).2))]) := by
  refine Spec.intro (n := 9) Tryz.func49 rfl rfl (by decide) (Nat.le_of_ble_eq_true rfl) rfl (fun _ => qA) (fun _ => qA) ?_
  intro σ D M
  have hi3 := iC_len (idR b).1
  refine T.seq ?_
  refine T.region ?_
  refine L.alloc rfl ze31 (fun b2 => ?_)
  refine L.nil ?_
  refine T.thenN ?_
  refine T.seq ?_
  refine T.region ?_
  refine L.alloc rfl ze31 (fun b3 => ?_)
  refine L.nil ?_
  refine T.thenN ?_
  refine T.seq ?_
  refine T.regionA (clsL [1, 1, 2, 2]) (by kernel_rfl) ?_
  refine A.takeP (i := 0) rfl rfl rfl rfl (by kernel_rfl) (by kernel_rfl) (by kernel_rfl) rfl qD ?_
  refine L.sliceArr rfl Tryz.underlying31 sz5 rfl Bd.no Bd.no qI qI ?_
  refine L.known (t := 4) (u := .slice (some ⟨b3, 0, none⟩) 32 32) rfl (by first | rfl | simp [cutA, Addr.add]) ?_
  refine A.took ?_
  refine A.takeP (i := 1) rfl rfl rfl rfl (by kernel_rfl) (by kernel_rfl) (by kernel_rfl) rfl qD ?_
  refine L.move rfl rfl ?_
  refine A.took ?_
  refine A.branch (is := [2]) (by kernel_rfl) (by decide) (Each.cons rfl ?_ <| Each.nil) 
  refine L.call rfl (evs.cons rfl <| evs.cons rfl <| evs.nil) qD qS (bbytes_spec (b := b) (n := 32) (by decide)) ?_
  rintro _ _ _ ⟨rfl, rfl, rfl⟩
  refine L.norm qA qA ?_
  refine A.backT rfl qD ?_
  refine A.branch (is := [3]) (by kernel_rfl) (by decide) (Each.cons rfl ?_ <| Each.nil) 
  refine L.copyStr rfl Tryz.underlying97 sz5 rfl rfl rfl qU (id_set b) ?_
  refine A.backT rfl qD ?_
  refine A.done (by kernel_rfl) ?_
  refine T.eqv (A := cl bb 165 (blR ((bytB b ((32 : Nat) : Int)).2))) (B := cl bb 165 (blR ((idR b).2))) qP rfl ?_
  refine T.thenN ?_
  refine T.seq ?_
  refine T.region ?_
  refine L.loadA rfl ag31 rfl qN ?_
  refine L.storeA ag31 rfl rfl qL qO qU qW ?_
  refine L.nil ?_
  refine T.thenN ?_
  refine T.ret ?_
  exact T.retA rfl ag31 rfl qN ⟨rfl, rfl, rfl⟩ qD qF
set_option maxHeartbeats 400000 in
theorem bidsr_spec {bb : Nat} {b : Bl} {top : Nat} (ht : top ≤ 1000000) : Spec Tryz.prog 51 [.pointer (some ⟨bb, 0, none⟩), .int .i64 (top : Int)] [] [cl bb 165 (blR (b))] (fun v D' M' => ∃ (a' : Option Addr) (n' c' : Nat), v = .slice a' n' c' ∧ ((idsF b top).1.length = n') ∧ D' = [] ∧ M' = [cl bb 165 (blR ((idsF b top).2)), own 32 31 a' n' c' (((idsF b top).1).map iC)]) := by
  refine Spec.intro (n := 32) Tryz.func51 rfl rfl (by decide) (Nat.le_of_ble_eq_true rfl) rfl (fun _ => qA) (fun _ => qA) ?_
  intro σ D M
  have hle := int_le b top
  obtain ⟨m, hm⟩ : ∃ m, m = (intR b top).1 := ⟨_, rfl⟩
  obtain ⟨z, hz⟩ : ∃ z, z = (intR b top).2 := ⟨_, rfl⟩
  have hF : idsF b top = (if (idsL m z).2.err ≠ 0 then [] else (idsL m z).1, (idsL m z).2) := by rw [hm, hz]; rfl
  rw [← hm] at hle
  refine T.seq ?_
  refine T.region ?_
  refine L.assign rfl rfl ?_
  refine L.nil ?_
  refine T.thenN ?_
  refine T.seq ?_
  refine T.region ?_
  refine L.assign rfl rfl ?_
  refine L.nil ?_
  refine T.newOwn (sz := 32) (e := 31) ?_
  refine T.eqv qP (show own 32 31 none 0 0 [] = own 32 31 none 0 0 ((([] : List ID32)).map iC) from rfl) ?_
  refine T.thenN ?_
  refine T.seq ?_
  refine T.seq ?_
  refine T.region ?_
  refine L.move rfl rfl ?_
  refine L.move rfl rfl ?_
  refine L.call rfl (evs.cons rfl <| evs.cons rfl <| evs.nil) qD qS (bint_spec (b := b) (top := top) (by omega)) ?_
  rintro _ _ _ ⟨rfl, rfl, rfl⟩
  refine L.norm qA qA ?_
  rw [← hm, ← hz]
  refine L.assign rfl rfl ?_
  refine L.nil ?_
  refine T.thenN ?_
  refine T.block ?_
  refine T.loop (fun K' D' M' μ => ∃ (j n5 c5 : Nat) (a5 : Option Addr) (q : Bl) (acc : List ID32), (IdsI z m j q acc ∧ acc.length = n5) ∧ K' = [(6, .int .i64 (j : Int)), (5, .slice a5 n5 c5)] ∧ D' = [] ∧ M' = [cl bb 165 (blR (q)), own 32 31 a5 n5 c5 ((acc).map iC)] ∧ μ = 2 * j) (.cons (t := 0) rfl <| SubK.nil _) (⟨m, 0, 0, none, z, [], ⟨.start, rfl⟩, rfl, rfl, rfl, rfl⟩) (.cons (t := 6) rfl <| .cons (t := 5) rfl <| SubK.nil _) qD qS ?_
  rintro K1 D1 M1 m1 ⟨j, n5, c5, a5, q, acc, ⟨hI, hac⟩, rfl, rfl, rfl, rfl⟩
  refine T.norm3 qA qA qA ?_
  have hIl := hI.len
  refine T.seq ?_
  refine T.seq ?_
  refine T.region ?_
  refine L.move rfl rfl ?_
  refine L.gtI rfl rfl rfl ?_
  refine L.move rfl rfl ?_
  refine L.part (t := 12) rfl (fun h1 => ?_) (fun h1 => ?_)
  · try simp only [decide_eq_true_eq, decide_eq_false_iff_not, Bool.not_eq_true', Bool.not_eq_false', Bool.and_eq_true, Bool.or_eq_true] at h1
    refine L.guardT (dj := 12) rfl rfl rfl ?_
    refine L.move rfl rfl ?_
    refine L.guardT (dj := 12) rfl rfl rfl ?_
    refine L.nilCheck rfl rfl ?_
    refine L.guardT (dj := 12) rfl rfl rfl ?_
    first | refine L.field0 rfl fo165_1 rfl ?_ | refine L.field rfl fo165_1 rfl ?_
    refine L.guardT (dj := 12) rfl rfl rfl ?_
    refine L.load rfl sc37 rfl qC ?_
    refine L.guardT (dj := 12) rfl rfl rfl ?_
    refine L.eqI rfl rfl rfl ?_
    refine L.pickT rfl rfl rfl ?_
    refine L.nil ?_
    refine T.thenN ?_
    refine T.cond rfl (fun h18 => ?_) (fun h18 => ?_)
    · try simp only [decide_eq_true_eq, decide_eq_false_iff_not, Bool.not_eq_true', Bool.not_eq_false', Bool.and_eq_true, Bool.or_eq_true] at h18
      obtain ⟨j2, rfl⟩ : ∃ j2, j = j2 + 1 := ⟨j - 1, by omega⟩
      have hqe : q.err = 0 := h18
      have hi3 := iC_len (idR q).1
      refine T.skip ?_
      refine T.thenN ?_
      refine T.seq ?_
      refine T.block ?_
      refine T.region ?_
      refine L.move rfl rfl ?_
      refine L.move rfl rfl ?_
      refine L.call rfl (evs.cons rfl <| evs.nil) qD qS (bid_spec (b := q)) ?_
      rintro _ _ _ ⟨rfl, rfl, rfl⟩
      refine L.norm qA qA ?_
      refine L.buildSlice rfl bs27 (by decide) (BP.agg rfl rfl (by first | with_reducible assumption | (simp; done) | (simp only [List.length_map]; with_reducible assumption) | (simp [*]; done) | rfl) (Nat.le_of_ble_eq_true rfl) qR <| BP.doneE (out := []) rfl) (fun b24 => ?_)
      refine L.append1 rfl Tryz.underlying27 el31 rfl rfl qP qM (by rw [List.append_nil]; exact iC_len _) (fun u hu => by rw [List.append_nil] at hu; exact one_iC u hu) qI qI (fun a25 c25 => ?_)
      refine L.assign rfl rfl ?_
      refine L.nil ?_
      refine T.blkN ?_
      refine T.thenN ?_
      refine T.region ?_
      refine L.move rfl rfl ?_
      refine L.subN rfl rfl rfl (by omega) ?_
      refine L.known (t := 20) (u := .int .i64 (j2 : Int)) rfl (congrArg (Value.int .i64) (by omega)) ?_
      refine L.assign rfl rfl ?_
      refine L.nil ?_
      refine T.thenN ?_
      refine T.ownEq _ ((acc ++ [(idR q).1]).map iC) qP (by rw [List.map_append, List.append_nil]; rfl) ?_
      exact T.back ⟨j2, n5 + 1, _, _, (idR q).2, acc ++ [(idR q).1], ⟨hI.next hqe, by rw [List.length_append, hac]; rfl⟩, rfl, rfl, rfl, rfl⟩ qI (.cons (t := 6) rfl <| .cons (t := 5) rfl <| SubK.nil _) (.cons (t := 0) rfl <| SubK.nil _) qD qD qF
    · try simp only [decide_eq_true_eq, decide_eq_false_iff_not, Bool.not_eq_true', Bool.not_eq_false', Bool.and_eq_true, Bool.or_eq_true] at h18
      refine T.exit ?_
      refine T.thenX ?_
      refine T.thenX ?_
      refine T.blkX ?_
      refine T.thenN ?_
      refine T.seq ?_
      refine T.seq ?_
      refine T.region ?_
      refine L.move rfl rfl ?_
      refine L.nilCheck rfl rfl ?_
      first | refine L.field0 rfl fo165_1 rfl ?_ | refine L.field rfl fo165_1 rfl ?_
      refine L.load rfl sc37 rfl qC ?_
      refine L.neI rfl rfl rfl ?_
      refine L.nil ?_
      refine T.thenN ?_
      refine T.cond rfl (fun h30 => ?_) (fun h30 => ?_)
      · try simp only [decide_eq_true_eq, decide_eq_false_iff_not, Bool.not_eq_true', Bool.not_eq_false', Bool.and_eq_true, Bool.or_eq_true] at h30
        refine T.seq ?_
        refine T.region ?_
        refine L.assign rfl rfl ?_
        refine L.nil ?_
        refine T.newOwn (sz := 32) (e := 31) ?_
        refine T.eqv qP (show own 32 31 none 0 0 [] = own 32 31 none 0 0 ((([] : List ID32)).map iC) from rfl) ?_
        refine T.thenN ?_
        refine T.ret ?_
        refine T.thenR ?_
        have hst := hI.stop (by first | (left; omega) | (right; assumption))
        have hF2 : idsF b top = (if q.err ≠ 0 then [] else acc, q) := by rw [hF, hst]
        first | rw [if_pos h30] at hF2 | rw [if_neg h30] at hF2
        rw [hF2]
        exact T.ret1 rfl rfl ⟨_, _, _, rfl, (by first | rfl | exact hac), rfl, rfl⟩ qD qF
      · try simp only [decide_eq_true_eq, decide_eq_false_iff_not, Bool.not_eq_true', Bool.not_eq_false', Bool.and_eq_true, Bool.or_eq_true] at h30
        refine T.skip ?_
        refine T.thenN ?_
        refine T.seq ?_
        refine T.region ?_
        refine L.move rfl rfl ?_
        refine L.assign rfl rfl ?_
        refine L.nil ?_
        refine T.thenN ?_
        refine T.ret ?_
        have hst := hI.stop (by first | (left; omega) | (right; assumption))
        have hF2 : idsF b top = (if q.err ≠ 0 then [] else acc, q) := by rw [hF, hst]
        first | rw [if_pos h30] at hF2 | rw [if_neg h30] at hF2
        rw [hF2]
        exact T.ret1 rfl rfl ⟨_, _, _, rfl, (by first | rfl | exact hac), rfl, rfl⟩ qD qF
  · try simp only [decide_eq_true_eq, decide_eq_false_iff_not, Bool.not_eq_true', Bool.not_eq_false', Bool.and_eq_true, Bool.or_eq_true] at h1
    refine L.guardF (dj := 12) (c := false) rfl rfl rfl rfl rfl (by decide) ?_
    refine L.guardF (dj := 12) (c := false) rfl rfl rfl rfl rfl (by decide) ?_
    refine L.guardF (dj := 12) (c := false) rfl rfl rfl rfl rfl (by decide) ?_
    refine L.guardF (dj := 12) (c := false) rfl rfl rfl rfl rfl (by decide) ?_
    refine L.guardF (dj := 12) (c := false) rfl rfl rfl rfl rfl (by decide) ?_
    refine L.pickF rfl rfl rfl ?_
    refine L.nil ?_
    refine T.thenN ?_
    refine T.condF rfl rfl ?_
    refine T.exit ?_
    refine T.thenX ?_
    refine T.thenX ?_
    refine T.blkX ?_
    refine T.thenN ?_
    refine T.seq ?_
    refine T.seq ?_
    refine T.region ?_
    refine L.move rfl rfl ?_
    refine L.nilCheck rfl rfl ?_
    first | refine L.field0 rfl fo165_1 rfl ?_ | refine L.field rfl fo165_1 rfl ?_
    refine L.load rfl sc37 rfl qC ?_
    refine L.neI rfl rfl rfl ?_
    refine L.nil ?_
    refine T.thenN ?_
    refine T.cond rfl (fun h30 => ?_) (fun h30 => ?_)
    · try simp only [decide_eq_true_eq, decide_eq_false_iff_not, Bool.not_eq_true', Bool.not_eq_false', Bool.and_eq_true, Bool.or_eq_true] at h30
      refine T.seq ?_
      refine T.region ?_
      refine L.assign rfl rfl ?_
      refine L.nil ?_
      refine T.newOwn (sz := 32) (e := 31) ?_
      refine T.eqv qP (show own 32 31 none 0 0 [] = own 32 31 none 0 0 ((([] : List ID32)).map iC) from rfl) ?_
      refine T.thenN ?_
      refine T.ret ?_
      refine T.thenR ?_
      have hst := hI.stop (by first | (left; omega) | (right; assumption))
      have hF2 : idsF b top = (if q.err ≠ 0 then [] else acc, q) := by rw [hF, hst]
      first | rw [if_pos h30] at hF2 | rw [if_neg h30] at hF2
      rw [hF2]
      exact T.ret1 rfl rfl ⟨_, _, _, rfl, (by first | rfl | exact hac), rfl, rfl⟩ qD qF
    · try simp only [decide_eq_true_eq, decide_eq_false_iff_not, Bool.not_eq_true', Bool.not_eq_false', Bool.and_eq_true, Bool.or_eq_true] at h30
      refine T.skip ?_
      refine T.thenN ?_
      refine T.seq ?_
      refine T.region ?_
      refine L.move rfl rfl ?_
      refine L.assign rfl rfl ?_
      refine L.nil ?_
      refine T.thenN ?_
      refine T.ret ?_
      have hst := hI.stop (by first | (left; omega) | (right; assumption))
      have hF2 : idsF b top = (if q.err ≠ 0 then [] else acc, q) := by rw [hF, hst]
      first | rw [if_pos h30] at hF2 | rw [if_neg h30] at hF2
      rw [hF2]
      exact T.ret1 rfl rfl ⟨_, _, _, rfl, (by first | rfl | exact hac), rfl, rfl⟩ qD qF
end Cv
