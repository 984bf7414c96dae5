/-
  The walks: letters, repeat.
-/
import Derived.Test.YtdajpfbgikgkeaaD05
import Derived.Test.YtdajpfbgikgkeaaN05
import Derived.Test.YtdajpfbgikgkeaaProg
import Derived.KernelRfl
set_option linter.unusedVariables false
set_option linter.unusedSimpArgs false
set_option linter.unusedSectionVars false
set_option maxRecDepth 10000
namespace Cv
open Go Go.Proofs

set_option maxHeartbeats 400000 in
theorem letters_spec {s : List UInt8} (hs : s.length ≤ 1000000000) : Spec Try.prog 21 [S s] [] [] (fun v D' M' => v = S (letF s) ∧ D' = [] ∧ M' = []) := by
  refine Spec.intro (n := 23) Try.func21 rfl rfl (by decide) (Nat.le_of_ble_eq_true rfl) rfl (fun _ => qA) (fun _ => qA) ?_
  intro σ D M
  refine T.seq ?_
  refine T.region ?_
  refine L.assign rfl rfl ?_
  refine L.nil ?_
  refine T.thenN ?_
  refine T.seq ?_
  refine T.region ?_
  refine L.assign rfl rfl ?_
  refine L.nil ?_
  refine T.thenN ?_
  refine T.seq ?_
  refine T.seq ?_
  have htl : (s.take 10).length ≤ 10 := by rw [List.length_take]; omega
  refine T.region ?_
  refine L.move rfl rfl ?_
  refine L.callF rfl (evs.cons rfl <| evs.cons rfl <| evs.nil) qD qS (cut_spec (n := 10)) (by rintro u D1 M1 ⟨rfl, rfl, rfl⟩; exact ⟨rfl, _, qA, qF⟩) ?_
  refine L.strBytes (l := s.take 10) rfl Try.underlying9 Try.underlying34 Try.underlying5 rfl (fun bb bc => ?_)
  refine L.lenSl rfl Try.underlying34 rfl ?_
  refine L.move rfl rfl ?_
  refine L.nil ?_
  refine T.thenN ?_
  refine T.block ?_
  refine T.loop (fun K' D' M' μ => ∃ (i : Nat) (acc : List UInt8), (i ≤ (s.take 10).length ∧ acc = 110 :: ((s.take 10).take i).map (fun c => UInt8.ofNat (97 + c.toNat % 26))) ∧ K' = [(10, .int .i64 i), (3, S acc)] ∧ D' = [] ∧ M' = [] ∧ μ = (s.take 10).length - i) (.cons (t := 8) rfl <| .cons (t := 9) rfl <| SubK.nil _) (⟨0, [110], ⟨by omega, rfl⟩, rfl, rfl, rfl, rfl⟩) (.cons (t := 10) rfl <| .cons (t := 3) rfl <| SubK.nil _) qD qS ?_
  rintro K1 D1 M1 m1 ⟨i, acc, ⟨hi, hac⟩, rfl, rfl, rfl, rfl⟩
  refine T.norm3 qA qA qA ?_
  have hacl : acc.length ≤ 11 := by rw [hac]; simp; omega
  refine T.seq ?_
  refine T.region ?_
  refine L.ltI rfl rfl rfl ?_
  refine L.nil ?_
  refine T.thenN ?_
  refine T.seq ?_
  refine T.cond rfl (fun h11 => ?_) (fun h11 => ?_)
  · try simp only [decide_eq_true_eq, decide_eq_false_iff_not, Bool.not_eq_true', Bool.not_eq_false', Bool.and_eq_true, Bool.or_eq_true] at h11
    refine T.skip ?_
    refine T.thenN ?_
    refine T.seq ?_
    refine T.block ?_
    refine T.seq ?_
    have hx : (s.take 10)[i]? = some (gd (s.take 10) i) := gd_get (by omega)
    refine T.region ?_
    refine L.idx (i := i) rfl Try.underlying34 sz5 rfl rfl qM (by first | rfl | omega | (simp; done)) qG (fun b12 o12 => ?_)
    refine L.load rfl sc5 rfl qC ?_
    refine L.assign rfl rfl ?_
    refine L.nil ?_
    refine T.thenN ?_
    refine T.region ?_
    refine L.move rfl rfl ?_
    refine L.move rfl rfl ?_
    refine L.remI rfl rfl rfl (by decide) ?_
    refine L.addI rfl rfl rfl ?_
    rw [u8_let]
    refine L.convI rfl Try.underlying5 Try.underlying21 rfl ?_
    rw [i32_wrap (by omega)]
    refine L.convRune (r := 97 + (gd (s.take 10) i).toNat % 26) rfl (by kernel_rfl) Try.underlying9 rfl (fun rs hrs => ?_)
    obtain rfl := enc_ascii (by omega) hrs
    refine L.addS rfl rfl rfl qI ?_
    refine L.assign rfl rfl ?_
    refine L.nil ?_
    refine T.blkN ?_
    refine T.thenN ?_
    refine T.region ?_
    refine L.addN rfl rfl rfl (by omega) ?_
    refine L.move rfl rfl ?_
    refine L.nil ?_
    refine T.thenN ?_
    exact T.back ⟨i + 1, _, ⟨by omega, by rw [← letF_step hx, hac]⟩, rfl, rfl, rfl, rfl⟩ qI (.cons (t := 10) rfl <| .cons (t := 3) rfl <| SubK.nil _) (.cons (t := 8) rfl <| .cons (t := 9) rfl <| SubK.nil _) qD qD qF
  · try simp only [decide_eq_true_eq, decide_eq_false_iff_not, Bool.not_eq_true', Bool.not_eq_false', Bool.and_eq_true, Bool.or_eq_true] at h11
    refine T.exit ?_
    refine T.thenX ?_
    refine T.thenX ?_
    refine T.blkX ?_
    refine T.thenN ?_
    refine T.seq ?_
    refine T.region ?_
    refine L.move rfl rfl ?_
    refine L.assign rfl rfl ?_
    refine L.nil ?_
    refine T.thenN ?_
    refine T.ret ?_
    exact T.ret1 rfl rfl ⟨congrArg S (by rw [hac, List.take_of_length_le (show (s.take 10).length ≤ i by omega)]; rfl), rfl, rfl⟩ qD qF
set_option maxHeartbeats 400000 in
theorem repeat_spec {n : Nat} (hn : n ≤ 1000) : Spec Try.prog 22 [S [97], .int .i64 (n : Int)] [] [] (fun v D' M' => v = S (List.replicate n 97) ∧ D' = [] ∧ M' = []) := by
  refine Spec.intro (n := 14) Try.func22 rfl rfl (by decide) (Nat.le_of_ble_eq_true rfl) rfl (fun _ => qA) (fun _ => qA) ?_
  intro σ D M
  refine T.seq ?_
  refine T.region ?_
  refine L.assign rfl rfl ?_
  refine L.nil ?_
  refine T.thenN ?_
  refine T.seq ?_
  refine T.region ?_
  refine L.assign rfl rfl ?_
  refine L.nil ?_
  refine T.thenN ?_
  refine T.seq ?_
  refine T.seq ?_
  refine T.region ?_
  refine L.move rfl rfl ?_
  refine L.move rfl rfl ?_
  refine L.nil ?_
  refine T.thenN ?_
  refine T.block ?_
  refine T.loop (fun K' D' M' μ => ∃ (i : Nat) (acc : List UInt8), (i ≤ n ∧ acc = List.replicate i 97) ∧ K' = [(7, .int .i64 i), (5, S acc)] ∧ D' = [] ∧ M' = [] ∧ μ = n - i) (.cons (t := 0) rfl <| .cons (t := 6) rfl <| SubK.nil _) (⟨0, [], ⟨by omega, rfl⟩, rfl, rfl, rfl, rfl⟩) (.cons (t := 7) rfl <| .cons (t := 5) rfl <| SubK.nil _) qD qS ?_
  rintro K1 D1 M1 m1 ⟨i, acc, ⟨hi, hac⟩, rfl, rfl, rfl, rfl⟩
  refine T.norm3 qA qA qA ?_
  have hacl : acc.length = i := by rw [hac, List.length_replicate]
  refine T.seq ?_
  refine T.region ?_
  refine L.ltI rfl rfl rfl ?_
  refine L.nil ?_
  refine T.thenN ?_
  refine T.seq ?_
  refine T.cond rfl (fun h8 => ?_) (fun h8 => ?_)
  · try simp only [decide_eq_true_eq, decide_eq_false_iff_not, Bool.not_eq_true', Bool.not_eq_false', Bool.and_eq_true, Bool.or_eq_true] at h8
    refine T.skip ?_
    refine T.thenN ?_
    refine T.seq ?_
    refine T.block ?_
    refine T.region ?_
    refine L.move rfl rfl ?_
    refine L.move rfl rfl ?_
    refine L.addS rfl rfl rfl qI ?_
    refine L.assign rfl rfl ?_
    refine L.nil ?_
    refine T.blkN ?_
    refine T.thenN ?_
    refine T.region ?_
    refine L.addN rfl rfl rfl (by omega) ?_
    refine L.move rfl rfl ?_
    refine L.nil ?_
    refine T.thenN ?_
    exact T.back ⟨i + 1, _, ⟨by omega, by rw [hac, List.replicate_succ']⟩, rfl, rfl, rfl, rfl⟩ qI (.cons (t := 7) rfl <| .cons (t := 5) rfl <| SubK.nil _) (.cons (t := 0) rfl <| .cons (t := 6) rfl <| SubK.nil _) qD qD qF
  · try simp only [decide_eq_true_eq, decide_eq_false_iff_not, Bool.not_eq_true', Bool.not_eq_false', Bool.and_eq_true, Bool.or_eq_true] at h8
    refine T.exit ?_
    refine T.thenX ?_
    refine T.thenX ?_
    refine T.blkX ?_
    refine T.thenN ?_
    refine T.seq ?_
    refine T.region ?_
    refine L.move rfl rfl ?_
    refine L.assign rfl rfl ?_
    refine L.nil ?_
    refine T.thenN ?_
    refine T.ret ?_
    exact T.ret1 rfl rfl ⟨congrArg S (by rw [hac, show i = n by omega]), rfl, rfl⟩ qD qF
end Cv
