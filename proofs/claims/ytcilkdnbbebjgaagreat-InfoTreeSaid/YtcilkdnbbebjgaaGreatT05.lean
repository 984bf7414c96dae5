/-
  The walks: letters, repeat.
-/
import Derived.Test.YtcilkdnbbebjgaaGreatD05
import Derived.Test.YtcilkdnbbebjgaaGreatN05
import Derived.Test.YtcilkdnbbebjgaaGreatProg
import Derived.KernelRfl
set_option linter.unusedVariables false
set_option linter.unusedSimpArgs false
set_option linter.unusedSectionVars false
set_option maxRecDepth 10000
namespace Cv
open Go Go.Proofs

set_option maxHeartbeats 400000 in
theorem letters_spec {s : List UInt8} (hs : s.length ≤ 1000000000) : Spec Tryz.prog 99 [S s] [] [] (fun v D' M' => v = S (letF s) ∧ D' = [] ∧ M' = []) := by
 refine Spec.intro (n := 23) Tryz.func99 rfl rfl (by decide) (Nat.le_of_ble_eq_true rfl) rfl (fun _ => qA) (fun _ => qA) ?_
 intro σ D M
 refine T.seq (T.region ?_)
 refine L.assign rfl rfl ?_
 refine L.nil ?_
 refine T.thenN (T.seq (T.region ?_))
 refine L.assign rfl rfl ?_
 refine L.nil ?_
 refine T.thenN (T.seq (T.seq ?_))
 have htl : (s.take 10).length ≤ 10 := by rw [List.length_take]; omega
 refine T.region ?_
 refine L.move rfl rfl ?_
 refine L.callF rfl (evs.cons rfl <| evs.cons rfl <| evs.nil) qD qS (cut_spec (n := 10)) (by rintro u D1 M1 ⟨rfl, rfl, rfl⟩; exact ⟨rfl, _, qA, qF⟩) ?_
 refine L.strBytes (l := s.take 10) rfl Tryz.underlying9 Tryz.underlying97 Tryz.underlying5 rfl (fun bb bc => ?_)
 refine L.lenSl rfl Tryz.underlying97 rfl ?_
 refine L.move rfl rfl ?_
 refine L.nil ?_
 refine T.thenN (T.block ?_)
 refine T.loop (fun K' D' M' μ => ∃ (i : Nat) (acc : List UInt8), (i ≤ (s.take 10).length ∧ acc = 110 :: ((s.take 10).take i).map (fun c => UInt8.ofNat (97 + c.toNat % 26))) ∧ K' = [(10, .int .i64 i), (3, S acc)] ∧ D' = [] ∧ M' = [] ∧ μ = (s.take 10).length - i) (.cons (t := 8) rfl <| .cons (t := 9) rfl <| SubK.nil _) (⟨0, [110], ⟨by omega, rfl⟩, rfl, rfl, rfl, rfl⟩) (.cons (t := 10) rfl <| .cons (t := 3) rfl <| SubK.nil _) qD qS ?_
 rintro K1 D1 M1 m1 ⟨i, acc, ⟨hi, hac⟩, rfl, rfl, rfl, rfl⟩
 refine T.norm3 qA qA qA ?_
 have hacl : acc.length ≤ 11 := by rw [hac]; simp; omega
 refine T.seq (T.region ?_)
 refine L.ltI rfl rfl rfl ?_
 refine L.nil ?_
 refine T.thenN (T.seq ?_)
 refine T.cond rfl (fun h11 => ?_) (fun h11 => ?_)
 ·try simp only [dq] at h11
  refine T.skip (T.thenN (T.seq (T.block (T.seq ?_))))
  have hx : (s.take 10)[i]? = some (gd (s.take 10) i) := gd_get (by omega)
  refine T.region ?_
  refine L.idx (i := i) rfl Tryz.underlying97 sz5 rfl rfl qM (by first | rfl | omega | (simp; done)) qG (fun b12 o12 => ?_)
  refine L.load rfl sc5 rfl qC ?_
  refine L.assign rfl rfl ?_
  refine L.nil ?_
  refine T.thenN (T.region ?_)
  refine L.move rfl rfl ?_
  refine L.move rfl rfl ?_
  refine L.remI rfl rfl rfl (by decide) ?_
  refine L.addI rfl rfl rfl ?_
  rw [u8_let]
  refine L.convI rfl Tryz.underlying5 Tryz.underlying21 rfl ?_
  rw [i32_wrap (by omega)]
  refine L.convRune (r := 97 + (gd (s.take 10) i).toNat % 26) rfl qk Tryz.underlying9 rfl (fun rs hrs => ?_)
  obtain rfl := enc_ascii (by omega) hrs
  refine L.addS rfl rfl rfl qI ?_
  refine L.assign rfl rfl ?_
  refine L.nil ?_
  refine T.blkN (T.thenN (T.region ?_))
  refine L.addN rfl rfl rfl (by omega) ?_
  refine L.move rfl rfl ?_
  refine L.nil ?_
  refine T.thenN ?_
  exact T.back ⟨i + 1, _, ⟨by omega, by rw [← letF_step hx, hac]⟩, rfl, rfl, rfl, rfl⟩ qI (.cons (t := 10) rfl <| .cons (t := 3) rfl <| SubK.nil _) (.cons (t := 8) rfl <| .cons (t := 9) rfl <| SubK.nil _) qD qD qF
 ·try simp only [dq] at h11
  refine T.exit (T.thenX (T.thenX (T.blkX (T.thenN (T.seq (T.region ?_))))))
  refine L.move rfl rfl ?_
  refine L.assign rfl rfl ?_
  refine L.nil ?_
  refine T.thenN (T.ret ?_)
  exact T.ret1 rfl rfl ⟨congrArg S (by rw [hac, List.take_of_length_le (show (s.take 10).length ≤ i by omega)]; rfl), rfl, rfl⟩ qD qF
end Cv
