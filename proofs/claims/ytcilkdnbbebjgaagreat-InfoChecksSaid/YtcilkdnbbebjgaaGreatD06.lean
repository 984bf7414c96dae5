/-
  The walks: Write, the reference of archives.
-/
import Derived.Test.YtcilkdnbbebjgaaGreatC06
import Derived.Test.YtcilkdnbbebjgaaGreatProg
import Derived.KernelRfl
set_option linter.unusedVariables false
set_option linter.unusedSimpArgs false
set_option linter.unusedSectionVars false
set_option maxRecDepth 10000
namespace Cv
open Go Go.Proofs

set_option maxHeartbeats 400000 in
theorem write_spec {x : Tr} (a : Option Addr) (len cap : Nat) (hc : x.count ≤ 900000) (hs : TAll Sm x) (htl : x.t.length ≤ 20000) : Spec Tryz.prog 33 [.agg (iRow x a len cap).toArray] [rtr x (eRow x a len cap)] [] (fun v D' M' => v = .tuple #[S (wrS x), .int .i64 (wrE x)] ∧ D' = [] ∧ M' = []) := by
  refine Spec.intro (n := 17) Tryz.func33 rfl rfl (by decide) (Nat.le_of_ble_eq_true rfl) rfl (fun _ => qA) (fun _ => qA) ?_
  intro σ D M
  refine T.seq ?_
  refine T.region ?_
  refine L.box rfl rfl rfl (fun b1 => ?_)
  refine L.assign rfl rfl ?_
  refine L.assign rfl rfl ?_
  refine L.nil ?_
  refine T.thenN ?_
  refine T.seq ?_
  refine T.seq ?_
  refine T.region ?_
  refine L.loadA rfl ag24 rfl qN ?_
  refine L.callF rfl (evs.cons rfl <| evs.nil) qD qS (Chk_spec (x := x) a len cap hc hs htl) (by rintro u D1 M1 ⟨rfl, rfl, rfl⟩; exact ⟨rfl, _, qA, qF⟩) ?_
  refine L.assign rfl rfl ?_
  refine L.nil ?_
  refine T.thenN ?_
  refine T.seq ?_
  refine T.region ?_
  refine L.move rfl rfl ?_
  refine L.neI rfl rfl rfl ?_
  refine L.nil ?_
  refine T.thenN ?_
  refine T.cond rfl (fun h9 => ?_) (fun h9 => ?_)
  · try simp only [decide_eq_true_eq, decide_eq_false_iff_not, Bool.not_eq_true', Bool.not_eq_false', Bool.and_eq_true, Bool.or_eq_true] at h9
    refine T.seq ?_
    refine T.region ?_
    refine L.move rfl rfl ?_
    refine L.assign rfl rfl ?_
    refine L.assign rfl rfl ?_
    refine L.nil ?_
    refine T.thenN ?_
    refine T.ret ?_
    refine T.thenR ?_
    have hw := wr_bad (x := x) h9
    exact T.ret2 rfl rfl rfl ⟨by rw [hw.1, hw.2]; rfl, rfl, rfl⟩ qD qF
  · try simp only [decide_eq_true_eq, decide_eq_false_iff_not, Bool.not_eq_true', Bool.not_eq_false', Bool.and_eq_true, Bool.or_eq_true] at h9
    have hce : chkE x = 0 := by simpa using h9
    refine T.skip ?_
    refine T.thenN ?_
    refine T.seq ?_
    refine T.region ?_
    refine L.alloc rfl ze128 (fun b5 => ?_)
    refine L.nil ?_
    refine T.newOwn (sz := 1) (e := 5) ?_
    refine T.bldMk (bs := []) (len := 0) (.inl rfl) rfl qS ?_
    refine T.thenN ?_
    refine T.seq ?_
    refine T.region ?_
    refine L.call rfl (evs.cons rfl <| evs.cons rfl <| evs.nil) qD qS (bws_spec (bs := []) (s := mark) (by decide)) ?_
    rintro _ _ _ ⟨rfl, rfl, rfl⟩
    refine L.norm qA qA ?_
    refine L.nil ?_
    refine T.thenN ?_
    refine T.seq ?_
    refine T.region ?_
    refine L.loadA rfl ag24 rfl qN ?_
    refine L.call rfl (evs.cons rfl <| evs.cons rfl <| evs.nil) qD qS (put_spec x a len cap b5 (mark) 1 hc (chkE_T hce) (by have := putT_len x 1 (chkE_T hce) hc; first | (show (mark).length + _ ≤ _; simp only [mark, List.length_cons, List.length_nil]; omega) | (simp only [List.length_nil]; omega))) ?_
    rintro _ _ _ ⟨rfl, rfl, rfl⟩
    refine L.norm qA qA ?_
    refine L.nil ?_
    refine T.thenN ?_
    refine T.seq ?_
    refine T.seq ?_
    have hml : (mark ++ putT x).length = 4 + (putT x).length := by rw [List.length_append]; rfl
    have hpl := putT_len x 1 (chkE_T hce) hc
    refine T.region ?_
    refine L.callF rfl (evs.cons rfl <| evs.nil) qD qS (bln_spec (bs := mark ++ putT x)) (by rintro u D1 M1 ⟨rfl, rfl, rfl⟩; exact ⟨rfl, _, qA, qF⟩) ?_
    refine L.gtI rfl rfl rfl ?_
    refine L.nil ?_
    refine T.thenN ?_
    refine T.cond rfl (fun h15 => ?_) (fun h15 => ?_)
    · try simp only [decide_eq_true_eq, decide_eq_false_iff_not, Bool.not_eq_true', Bool.not_eq_false', Bool.and_eq_true, Bool.or_eq_true] at h15
      refine T.seq ?_
      refine T.region ?_
      refine L.assign rfl rfl ?_
      refine L.assign rfl rfl ?_
      refine L.nil ?_
      refine T.thenN ?_
      refine T.ret ?_
      refine T.thenR ?_
      have hw := wr_big hce (by omega)
      exact T.ret2 rfl rfl rfl ⟨by rw [hw.1, hw.2]; rfl, rfl, rfl⟩ qD qF
    · try simp only [decide_eq_true_eq, decide_eq_false_iff_not, Bool.not_eq_true', Bool.not_eq_false', Bool.and_eq_true, Bool.or_eq_true] at h15
      refine T.skip ?_
      refine T.thenN ?_
      refine T.seq ?_
      refine T.region ?_
      refine L.call rfl (evs.cons rfl <| evs.nil) qD qS (bst_spec (bs := mark ++ putT x) (by simp [mark]) (by omega)) ?_
      rintro _ _ _ ⟨rfl, rfl, rfl⟩
      refine L.norm qA qA ?_
      refine L.assign rfl rfl ?_
      refine L.assign rfl rfl ?_
      refine L.nil ?_
      refine T.thenN ?_
      refine T.ret ?_
      have hw := wr_ok hce (by omega)
      exact T.ret2 rfl rfl rfl ⟨by rw [hw.1, hw.2], rfl, rfl⟩ qD qF
set_option maxHeartbeats 400000 in
theorem rnum_spec {n : Nat} (hn : n < 18446744073709551616) : Spec Tryz.prog 60 [.int .u64 (n : Int)] [] [] (fun v D' M' => v = S (numB n) ∧ D' = [] ∧ M' = []) := by
  refine Spec.intro (n := 29) Tryz.func60 rfl rfl (by decide) (Nat.le_of_ble_eq_true rfl) rfl (fun _ => qA) (fun _ => qA) ?_
  intro σ D M
  refine T.seq ?_
  refine T.region ?_
  refine L.assign rfl rfl ?_
  refine L.nil ?_
  refine T.thenN ?_
  refine T.seq ?_
  refine T.region ?_
  refine L.assign rfl rfl ?_
  refine L.nil ?_
  refine T.thenN ?_
  refine T.seq ?_
  refine T.seq ?_
  refine T.region ?_
  refine L.assign rfl rfl ?_
  refine L.nil ?_
  refine T.thenN ?_
  refine T.block ?_
  refine T.loop (fun K' D' M' μ => ∃ (m i : Nat) (acc : List UInt8), ((beB n = beB m ++ acc ∧ acc.length = i) ∧ (m < 256 ^ (8 - i) ∧ i ≤ 8)) ∧ K' = [(0, .int .u64 (m : Int)), (3, S acc), (4, .int .i64 i)] ∧ D' = [] ∧ M' = [] ∧ μ = 2 * m) (SubK.nil _) (⟨n, 0, [], ⟨⟨by simp, rfl⟩, by simpa using hn, by omega⟩, rfl, rfl, rfl, rfl⟩) (.cons (t := 0) rfl <| .cons (t := 3) rfl <| .cons (t := 4) rfl <| SubK.nil _) qD qS ?_
  rintro K1 D1 M1 m1 ⟨m, i, acc, ⟨⟨hbe, hal⟩, hmb, hi⟩, rfl, rfl, rfl, rfl⟩
  refine T.norm3 qA qA qA ?_
  refine T.seq ?_
  refine T.seq ?_
  refine T.cutC (fun K' D' M' => ∃ (w : Bool), (w = true ↔ (i < 8 ∧ 0 < m)) ∧ K' = [(10, .bool w)] ∧ D' = [] ∧ M' = []) (M0 := []) (.cons (t := 0) rfl <| .cons (t := 3) rfl <| .cons (t := 4) rfl <| SubK.nil _) qS ?_ ?_
  · skip
    refine T.region ?_
    refine L.move rfl rfl ?_
    refine L.ltI rfl rfl rfl ?_
    refine L.move rfl rfl ?_
    refine L.part (t := 7) rfl (fun h1 => ?_) (fun h1 => ?_)
    · try simp only [decide_eq_true_eq, decide_eq_false_iff_not, Bool.not_eq_true', Bool.not_eq_false', Bool.and_eq_true, Bool.or_eq_true] at h1
      refine L.guardT (dj := 7) rfl rfl rfl ?_
      refine L.move rfl rfl ?_
      refine L.guardT (dj := 7) rfl rfl rfl ?_
      refine L.gtI rfl rfl rfl ?_
      refine L.pickT rfl rfl rfl ?_
      refine L.nil ?_
      refine T.thenN ?_
      exact T.toJoin ⟨_, (by simp_all <;> omega), rfl, rfl, rfl⟩ (.cons (t := 10) rfl <| SubK.nil _) (.cons (t := 0) rfl <| .cons (t := 3) rfl <| .cons (t := 4) rfl <| SubK.nil _) qD qD qF
    · try simp only [decide_eq_true_eq, decide_eq_false_iff_not, Bool.not_eq_true', Bool.not_eq_false', Bool.and_eq_true, Bool.or_eq_true] at h1
      refine L.guardF (dj := 7) (c := false) rfl rfl rfl rfl rfl (by decide) ?_
      refine L.guardF (dj := 7) (c := false) rfl rfl rfl rfl rfl (by decide) ?_
      refine L.pickF rfl rfl rfl ?_
      refine L.nil ?_
      refine T.thenN ?_
      exact T.toJoin ⟨_, (by simp_all <;> omega), rfl, rfl, rfl⟩ (.cons (t := 10) rfl <| SubK.nil _) (.cons (t := 0) rfl <| .cons (t := 3) rfl <| .cons (t := 4) rfl <| SubK.nil _) qD qD qF
  rintro _ _ _ ⟨w, hw, rfl, rfl, rfl⟩
  refine T.norm3 qA qA qA ?_
  refine T.thenN ?_
  refine T.cond rfl (fun h10 => ?_) (fun h10 => ?_)
  · try simp only [decide_eq_true_eq, decide_eq_false_iff_not, Bool.not_eq_true', Bool.not_eq_false', Bool.and_eq_true, Bool.or_eq_true] at h10
    have hwt := hw.1 h10
    have hbb := be_bound hmb hwt.2
    have hm64 := be_64 hmb
    refine T.skip ?_
    refine T.thenN ?_
    refine T.seq ?_
    refine T.block ?_
    refine T.seq ?_
    refine T.region ?_
    refine L.move rfl rfl ?_
    refine L.remI rfl rfl rfl (by decide) ?_
    rw [tm256]
    refine L.convIY rfl Tryz.underlying117 Tryz.underlying5 rfl ?_
    rw [y_byte' (by omega)]
    refine L.buildSlice rfl bs97 (by decide) (BP.one rfl rfl rfl <| BP.doneE (out := []) rfl) (fun b16 => ?_)
    refine L.toOwn (len := 1) (sz := 1) (e := 5) (rows := [UInt8.ofNat (m % 256)].map yr) qP (by rfl) rfl (by simp) ?_
    refine L.ownRsl qP ?_
    refine L.bytesStr rfl Tryz.underlying97 Tryz.underlying5 Tryz.underlying9 rfl qM ?_
    refine L.move rfl rfl ?_
    refine L.addS rfl rfl rfl qI ?_
    refine L.assign rfl rfl ?_
    refine L.nil ?_
    refine T.thenN ?_
    refine T.region ?_
    refine L.move rfl rfl ?_
    refine L.quoI rfl rfl rfl (by decide) ?_
    rw [td256, show IntKind.u64.wrap ((m / 256 : Nat) : Int) = ((m / 256 : Nat) : Int) from wrap_u64 (by omega) (by omega)]
    refine L.assign rfl rfl ?_
    refine L.nil ?_
    refine T.blkN ?_
    refine T.thenN ?_
    refine T.region ?_
    refine L.move rfl rfl ?_
    refine L.addN rfl rfl rfl (by omega) ?_
    refine L.assign rfl rfl ?_
    refine L.nil ?_
    refine T.thenN ?_
    exact T.back ⟨m / 256, i + 1, UInt8.ofNat (m % 256) :: acc, ⟨⟨be_step hbe (by omega), by simp [hal]⟩, (show 1 + i = i + 1 from by omega) ▸ hbb.2, by omega⟩, rfl, rfl, rfl, rfl⟩ qI (.cons (t := 0) rfl <| .cons (t := 3) rfl <| .cons (t := 4) rfl <| SubK.nil _) (SubK.nil _) qD qD qF
  · try simp only [decide_eq_true_eq, decide_eq_false_iff_not, Bool.not_eq_true', Bool.not_eq_false', Bool.and_eq_true, Bool.or_eq_true] at h10
    have hm0 : m = 0 := be_zero hmb (fun q => by rw [hw.2 q] at h10; cases h10)
    subst hm0
    refine T.exit ?_
    refine T.thenX ?_
    refine T.thenX ?_
    refine T.blkX ?_
    refine T.thenN ?_
    refine T.seq ?_
    refine T.region ?_
    refine L.move rfl rfl ?_
    refine L.lenStr rfl Tryz.underlying9 rfl ?_
    refine L.convIY rfl Tryz.underlying3 Tryz.underlying5 rfl ?_
    rw [y_byte' (by omega)]
    refine L.buildSlice rfl bs97 (by decide) (BP.one rfl rfl rfl <| BP.doneE (out := []) rfl) (fun b25 => ?_)
    refine L.toOwn (len := 1) (sz := 1) (e := 5) (rows := [UInt8.ofNat acc.length].map yr) qP (by rfl) rfl (by simp) ?_
    refine L.ownRsl qP ?_
    refine L.bytesStr rfl Tryz.underlying97 Tryz.underlying5 Tryz.underlying9 rfl qM ?_
    refine L.move rfl rfl ?_
    refine L.addS rfl rfl rfl qI ?_
    refine L.assign rfl rfl ?_
    refine L.nil ?_
    refine T.thenN ?_
    refine T.ret ?_
    exact T.ret1 rfl rfl ⟨congrArg S (by rw [numB, hbe, beB_0]; rfl), rfl, rfl⟩ qD qF
end Cv
