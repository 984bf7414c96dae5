/-
  The walks: Write, the reference of archives.
-/
import Derived.Test.YtcilkdnbbebjgaaGreatC06
import Derived.Test.YtcilkdnbbebjgaaGreatProg
import Derived.KernelRfl
set_option linter.unusedVariables false
set_option linter.unusedSimpArgs false
set_option linter.unusedSectionVars false
set_option maxRecDepth 10000
namespace Cv
open Go Go.Proofs

set_option maxHeartbeats 400000 in
theorem write_spec {x : Tr} (a : Option Addr) (len cap : Nat) (hc : x.count ≤ 900000) (hs : TAll Sm x) (htl : x.t.length ≤ 20000) : Spec Tryz.prog 33 [.agg (iRow x a len cap).toArray] [rtr x (eRow x a len cap)] [] (fun v D' M' => v = .tuple #[S (wrS x), .int .i64 (wrE x)] ∧ D' = [] ∧ M' = []) := by
 refine Spec.intro (n := 17) Tryz.func33 rfl rfl (by decide) (Nat.le_of_ble_eq_true rfl) rfl (fun _ => qA) (fun _ => qA) ?_
 intro σ D M
 refine T.seq (T.region ?_)
 refine L.box rfl rfl rfl (fun b1 => ?_)
 refine L.assign rfl rfl ?_
 refine L.assign rfl rfl ?_
 refine L.nil ?_
 refine T.thenN (T.seq (T.seq (T.region ?_)))
 refine L.loadA rfl ag24 rfl qN ?_
 refine L.callF rfl (evs.cons rfl <| evs.nil) qD qS (Chk_spec (x := x) a len cap hc hs htl) (by rintro u D1 M1 ⟨rfl, rfl, rfl⟩; exact ⟨rfl, _, qA, qF⟩) ?_
 refine L.assign rfl rfl ?_
 refine L.nil ?_
 refine T.thenN (T.seq (T.region ?_))
 refine L.move rfl rfl ?_
 refine L.neI rfl rfl rfl ?_
 refine L.nil ?_
 refine T.thenN ?_
 refine T.cond rfl (fun h9 => ?_) (fun h9 => ?_)
 ·try simp only [dq] at h9
  refine T.seq (T.region ?_)
  refine L.move rfl rfl ?_
  refine L.assign rfl rfl ?_
  refine L.assign rfl rfl ?_
  refine L.nil ?_
  refine T.thenN (T.ret ?_)
  refine T.thenR ?_
  have hw := wr_bad (x := x) h9
  exact T.ret2 rfl rfl rfl ⟨by rw [hw.1, hw.2]; rfl, rfl, rfl⟩ qD qF
 ·try simp only [dq] at h9
  have hce : chkE x = 0 := by simpa using h9
  refine T.skip (T.thenN (T.seq (T.region ?_)))
  refine L.alloc rfl ze128 (fun b5 => ?_)
  refine L.nil ?_
  refine T.newOwn (sz := 1) (e := 5) ?_
  refine T.bldMk (bs := []) (len := 0) (.inl rfl) rfl qS ?_
  refine T.thenN (T.seq (T.region ?_))
  refine L.call rfl (evs.cons rfl <| evs.cons rfl <| evs.nil) qD qS (bws_spec (bs := []) (s := mark) (by decide)) ?_
  rintro _ _ _ ⟨rfl, rfl, rfl⟩
  refine L.norm qA qA ?_
  refine L.nil ?_
  refine T.thenN (T.seq (T.region ?_))
  refine L.loadA rfl ag24 rfl qN ?_
  refine L.call rfl (evs.cons rfl <| evs.cons rfl <| evs.nil) qD qS (put_spec x a len cap b5 (mark) 1 hc (chkE_T hce) (by have := putT_len x 1 (chkE_T hce) hc; first | (show (mark).length + _ ≤ _; simp only [mark, List.length_cons, List.length_nil]; omega) | (simp only [List.length_nil]; omega))) ?_
  rintro _ _ _ ⟨rfl, rfl, rfl⟩
  refine L.norm qA qA ?_
  refine L.nil ?_
  refine T.thenN (T.seq (T.seq ?_))
  have hml : (mark ++ putT x).length = 4 + (putT x).length := by rw [List.length_append]; rfl
  have hpl := putT_len x 1 (chkE_T hce) hc
  refine T.region ?_
  refine L.callF rfl (evs.cons rfl <| evs.nil) qD qS (bln_spec (bs := mark ++ putT x)) (by rintro u D1 M1 ⟨rfl, rfl, rfl⟩; exact ⟨rfl, _, qA, qF⟩) ?_
  refine L.gtI rfl rfl rfl ?_
  refine L.nil ?_
  refine T.thenN ?_
  refine T.cond rfl (fun h15 => ?_) (fun h15 => ?_)
  ·try simp only [dq] at h15
   refine T.seq (T.region ?_)
   refine L.assign rfl rfl ?_
   refine L.assign rfl rfl ?_
   refine L.nil ?_
   refine T.thenN (T.ret ?_)
   refine T.thenR ?_
   have hw := wr_big hce (by omega)
   exact T.ret2 rfl rfl rfl ⟨by rw [hw.1, hw.2]; rfl, rfl, rfl⟩ qD qF
  ·try simp only [dq] at h15
   refine T.skip (T.thenN (T.seq (T.region ?_)))
   refine L.call rfl (evs.cons rfl <| evs.nil) qD qS (bst_spec (bs := mark ++ putT x) (by simp [mark]) (by omega)) ?_
   rintro _ _ _ ⟨rfl, rfl, rfl⟩
   refine L.norm qA qA ?_
   refine L.assign rfl rfl ?_
   refine L.assign rfl rfl ?_
   refine L.nil ?_
   refine T.thenN (T.ret ?_)
   have hw := wr_ok hce (by omega)
   exact T.ret2 rfl rfl rfl ⟨by rw [hw.1, hw.2], rfl, rfl⟩ qD qF
set_option maxHeartbeats 400000 in
theorem rnum_spec {n : Nat} (hn : n < 18446744073709551616) : Spec Tryz.prog 60 [.int .u64 (n : Int)] [] [] (fun v D' M' => v = S (numB n) ∧ D' = [] ∧ M' = []) := by
 refine Spec.intro (n := 29) Tryz.func60 rfl rfl (by decide) (Nat.le_of_ble_eq_true rfl) rfl (fun _ => qA) (fun _ => qA) ?_
 intro σ D M
 refine T.seq (T.region ?_)
 refine L.assign rfl rfl ?_
 refine L.nil ?_
 refine T.thenN (T.seq (T.region ?_))
 refine L.assign rfl rfl ?_
 refine L.nil ?_
 refine T.thenN (T.seq (T.seq (T.region ?_)))
 refine L.assign rfl rfl ?_
 refine L.nil ?_
 refine T.thenN (T.block ?_)
 refine T.loop (fun K' D' M' μ => ∃ (m i : Nat) (acc : List UInt8), ((beB n = beB m ++ acc ∧ acc.length = i) ∧ (m < 256 ^ (8 - i) ∧ i ≤ 8)) ∧ K' = [(0, .int .u64 (m : Int)), (3, S acc), (4, .int .i64 i)] ∧ D' = [] ∧ M' = [] ∧ μ = 2 * m) (SubK.nil _) (⟨n, 0, [], ⟨⟨by simp, rfl⟩, by simpa using hn, by omega⟩, rfl, rfl, rfl, rfl⟩) (.cons (t := 0) rfl <| .cons (t := 3) rfl <| .cons (t := 4) rfl <| SubK.nil _) qD qS ?_
 rintro K1 D1 M1 m1 ⟨m, i, acc, ⟨⟨hbe, hal⟩, hmb, hi⟩, rfl, rfl, rfl, rfl⟩
 refine T.norm3 qA qA qA ?_
 refine T.seq (T.seq ?_)
 refine T.cutC (fun K' D' M' => ∃ (w : Bool), (w = true ↔ (i < 8 ∧ 0 < m)) ∧ K' = [(10, .bool w)] ∧ D' = [] ∧ M' = []) (M0 := []) (.cons (t := 0) rfl <| .cons (t := 3) rfl <| .cons (t := 4) rfl <| SubK.nil _) qS ?_ ?_
 ·skip
  refine T.region ?_
  refine L.move rfl rfl ?_
  refine L.ltI rfl rfl rfl ?_
  refine L.move rfl rfl ?_
  refine L.part (t := 7) rfl (fun h1 => ?_) (fun h1 => ?_)
  ·try simp only [dq] at h1
   refine L.guardT (dj := 7) rfl rfl rfl ?_
   refine L.move rfl rfl ?_
   refine L.guardT (dj := 7) rfl rfl rfl ?_
   refine L.gtI rfl rfl rfl ?_
   refine L.pickT rfl rfl rfl ?_
   refine L.nil ?_
   refine T.thenN ?_
   exact T.toJoin ⟨_, (by simp_all <;> omega), rfl, rfl, rfl⟩ (.cons (t := 10) rfl <| SubK.nil _) (.cons (t := 0) rfl <| .cons (t := 3) rfl <| .cons (t := 4) rfl <| SubK.nil _) qD qD qF
  ·try simp only [dq] at h1
   refine L.guardF (dj := 7) (c := false) rfl rfl rfl rfl rfl (by decide) ?_
   refine L.guardF (dj := 7) (c := false) rfl rfl rfl rfl rfl (by decide) ?_
   refine L.pickF rfl rfl rfl ?_
   refine L.nil ?_
   refine T.thenN ?_
   exact T.toJoin ⟨_, (by simp_all <;> omega), rfl, rfl, rfl⟩ (.cons (t := 10) rfl <| SubK.nil _) (.cons (t := 0) rfl <| .cons (t := 3) rfl <| .cons (t := 4) rfl <| SubK.nil _) qD qD qF
 rintro _ _ _ ⟨w, hw, rfl, rfl, rfl⟩
 refine T.norm3 qA qA qA ?_
 refine T.thenN ?_
 refine T.cond rfl (fun h10 => ?_) (fun h10 => ?_)
 ·try simp only [dq] at h10
  have hwt := hw.1 h10
  have hbb := be_bound hmb hwt.2
  have hm64 := be_64 hmb
  refine T.skip (T.thenN (T.seq (T.block (T.seq (T.region ?_)))))
  refine L.move rfl rfl ?_
  refine L.remI rfl rfl rfl (by decide) ?_
  rw [tm256]
  refine L.convIY rfl Tryz.underlying117 Tryz.underlying5 rfl ?_
  rw [y_byte' (by omega)]
  refine L.buildSlice rfl bs97 (by decide) (BP.one rfl rfl rfl <| BP.doneE (out := []) rfl) (fun b16 => ?_)
  refine L.toOwn (len := 1) (sz := 1) (e := 5) (rows := [UInt8.ofNat (m % 256)].map yr) qP (by rfl) rfl (by simp) ?_
  refine L.ownRsl qP ?_
  refine L.bytesStr rfl Tryz.underlying97 Tryz.underlying5 Tryz.underlying9 rfl qM ?_
  refine L.move rfl rfl ?_
  refine L.addS rfl rfl rfl qI ?_
  refine L.assign rfl rfl ?_
  refine L.nil ?_
  refine T.thenN (T.region ?_)
  refine L.move rfl rfl ?_
  refine L.quoI rfl rfl rfl (by decide) ?_
  rw [td256, show IntKind.u64.wrap ((m / 256 : Nat) : Int) = ((m / 256 : Nat) : Int) from wrap_u64 (by omega) (by omega)]
  refine L.assign rfl rfl ?_
  refine L.nil ?_
  refine T.blkN (T.thenN (T.region ?_))
  refine L.move rfl rfl ?_
  refine L.addN rfl rfl rfl (by omega) ?_
  refine L.assign rfl rfl ?_
  refine L.nil ?_
  refine T.thenN ?_
  exact T.back ⟨m / 256, i + 1, UInt8.ofNat (m % 256) :: acc, ⟨⟨be_step hbe (by omega), by simp [hal]⟩, (show 1 + i = i + 1 from by omega) ▸ hbb.2, by omega⟩, rfl, rfl, rfl, rfl⟩ qI (.cons (t := 0) rfl <| .cons (t := 3) rfl <| .cons (t := 4) rfl <| SubK.nil _) (SubK.nil _) qD qD qF
 ·try simp only [dq] at h10
  have hm0 : m = 0 := be_zero hmb (fun q => by rw [hw.2 q] at h10; cases h10)
  subst hm0
  refine T.exit (T.thenX (T.thenX (T.blkX (T.thenN (T.seq (T.region ?_))))))
  refine L.move rfl rfl ?_
  refine L.lenStr rfl Tryz.underlying9 rfl ?_
  refine L.convIY rfl Tryz.underlying3 Tryz.underlying5 rfl ?_
  rw [y_byte' (by omega)]
  refine L.buildSlice rfl bs97 (by decide) (BP.one rfl rfl rfl <| BP.doneE (out := []) rfl) (fun b25 => ?_)
  refine L.toOwn (len := 1) (sz := 1) (e := 5) (rows := [UInt8.ofNat acc.length].map yr) qP (by rfl) rfl (by simp) ?_
  refine L.ownRsl qP ?_
  refine L.bytesStr rfl Tryz.underlying97 Tryz.underlying5 Tryz.underlying9 rfl qM ?_
  refine L.move rfl rfl ?_
  refine L.addS rfl rfl rfl qI ?_
  refine L.assign rfl rfl ?_
  refine L.nil ?_
  refine T.thenN (T.ret ?_)
  exact T.ret1 rfl rfl ⟨congrArg S (by rw [numB, hbe, beB_0]; rfl), rfl, rfl⟩ qD qF
set_option maxHeartbeats 400000 in
theorem rstr_spec {s : List UInt8} (hs : s.length ≤ 1000000000) : Spec Tryz.prog 82 [S s] [] [] (fun v D' M' => v = S (strB s) ∧ D' = [] ∧ M' = []) := by
 refine Spec.intro (n := 9) Tryz.func82 rfl rfl (by decide) (Nat.le_of_ble_eq_true rfl) rfl (fun _ => qA) (fun _ => qA) ?_
 intro σ D M
 have hnl := numB_len (n := s.length) (by omega)
 refine T.seq (T.region ?_)
 refine L.assign rfl rfl ?_
 refine L.nil ?_
 refine T.thenN (T.seq (T.region ?_))
 refine L.move rfl rfl ?_
 refine L.lenStr rfl Tryz.underlying9 rfl ?_
 refine L.convU rfl Tryz.underlying3 Tryz.underlying117 rfl qI ?_
 refine L.callF rfl (evs.cons rfl <| evs.nil) qD qS (rnum_spec (n := s.length) (by omega)) (by rintro u D1 M1 ⟨rfl, rfl, rfl⟩; exact ⟨rfl, _, qA, qF⟩) ?_
 refine L.move rfl rfl ?_
 refine L.addS rfl rfl rfl qI ?_
 refine L.assign rfl rfl ?_
 refine L.nil ?_
 refine T.thenN (T.ret ?_)
 exact T.ret1 rfl rfl ⟨rfl, rfl, rfl⟩ qD qF
set_option maxHeartbeats 400000 in
theorem child_spec {a : Option Addr} {len cap : Nat} {z : Nd} {l : List Nd} (hb : len ≤ 1000000) (hdz : z.dep ≤ 1000000) : Spec Tryz.prog 83 [.slice a len cap] [rsl 7 a len cap ((z :: l).map nrow)] [] (fun v D' M' => v = .int .i64 (chF z.dep l) ∧ D' = [] ∧ M' = []) := by
 refine Spec.intro (n := 37) Tryz.func83 rfl rfl (by decide) (Nat.le_of_ble_eq_true rfl) rfl (fun _ => qA) (fun _ => qA) ?_
 intro σ D M
 refine T.rslLen2 qM (fun hl hcc => ?_)
 rw [List.length_map, List.length_cons] at hl
 have hz0 : (z :: l)[0]? = some z := rfl
 refine T.rslAddr qM (by simp) (fun bo oo ha => ?_)
 subst ha
 refine T.seq (T.region ?_)
 refine L.assign rfl rfl ?_
 refine L.nil ?_
 refine T.thenN (T.seq (T.region ?_))
 refine L.assign rfl rfl ?_
 refine L.nil ?_
 refine T.thenN (T.seq (T.seq (T.region ?_)))
 refine L.assign rfl rfl ?_
 refine L.nil ?_
 refine T.thenN (T.block ?_)
 refine T.loop (fun K' D' M' μ => ∃ (i c : Nat), ((1 ≤ i ∧ i ≤ len ∧ c ≤ i) ∧ chF z.dep l = c + chF z.dep ((z :: l).drop i)) ∧ K' = [(4, .int .i64 i), (3, .int .i64 (c : Int))] ∧ D' = [] ∧ M' = [] ∧ μ = len - i) (.cons (t := 0) rfl <| SubK.nil _) (⟨1, 0, ⟨by omega, by simp⟩, rfl, rfl, rfl, rfl⟩) (.cons (t := 4) rfl <| .cons (t := 3) rfl <| SubK.nil _) qD qS ?_
 rintro K1 D1 M1 m1 ⟨i, c, ⟨⟨hi1, hi, hci⟩, hI⟩, rfl, rfl, rfl, rfl⟩
 refine T.norm3 qA qA qA ?_
 refine T.seq (T.seq ?_)
 refine T.cutC (fun K' D' M' => ∃ (w : Bool), (w = true ↔ (i < len ∧ z.dep < (gd (z :: l) i).dep)) ∧ K' = [(20, .bool w)] ∧ D' = [] ∧ M' = []) (M0 := []) (.cons (t := 0) rfl <| .cons (t := 3) rfl <| .cons (t := 4) rfl <| SubK.nil _) qS ?_ ?_
 ·skip
  rcases Nat.lt_or_ge i len with hil | hil
  ·skip
   have hzi : (z :: l)[i]? = some (gd (z :: l) i) := gd_get (by simp only [List.length_cons]; omega)
   refine T.regionQ qk qk ?_
   refine L.move rfl rfl ?_
   refine L.move rfl rfl ?_
   refine L.lenSl rfl Tryz.underlying47 rfl ?_
   refine L.ltI rfl rfl rfl ?_
   refine L.move rfl rfl ?_
   refine L.known (t := 9) rfl (show _ = Value.bool true from congrArg Value.bool (decide_eq_true (by omega))) ?_
   refine L.guardT (dj := 9) rfl rfl rfl ?_
   refine L.move rfl rfl ?_
   refine L.guardT (dj := 9) rfl rfl rfl ?_
   refine L.move rfl rfl ?_
   refine L.guardT (dj := 9) rfl rfl rfl ?_
   refine L.idxR (i := i) rfl Tryz.underlying47 sz149 rfl rfl qM (by first | rfl | omega | (simp; done)) qI qG ?_
   refine L.guardT (dj := 9) rfl rfl rfl ?_
   first | refine L.field0 rfl fo149_0 rfl ?_ | refine L.field rfl fo149_0 rfl ?_
   refine L.guardT (dj := 9) rfl rfl rfl ?_
   refine L.load rfl sc3 rfl qC ?_
   refine L.guardT (dj := 9) rfl rfl rfl ?_
   refine L.move rfl rfl ?_
   refine L.guardT (dj := 9) rfl rfl rfl ?_
   refine L.idxR (i := 0) rfl Tryz.underlying47 sz149 rfl rfl qM (by first | rfl | omega | (simp; done)) qI qG ?_
   refine L.guardT (dj := 9) rfl rfl rfl ?_
   first | refine L.field0 rfl fo149_0 rfl ?_ | refine L.field rfl fo149_0 rfl ?_
   refine L.guardT (dj := 9) rfl rfl rfl ?_
   refine L.load rfl sc3 rfl qC ?_
   refine L.guardT (dj := 9) rfl rfl rfl ?_
   refine L.gtI rfl rfl rfl ?_
   refine L.pickT rfl rfl rfl ?_
   refine L.nilQ ?_
   refine T.thenN ?_
   exact T.toJoin ⟨_, (by simp_all <;> omega), rfl, rfl, rfl⟩ (.cons (t := 20) rfl <| SubK.nil _) (.cons (t := 0) rfl <| .cons (t := 3) rfl <| .cons (t := 4) rfl <| SubK.nil _) qD qD qF
  ·skip
   refine T.regionQ qk qk ?_
   refine L.move rfl rfl ?_
   refine L.move rfl rfl ?_
   refine L.lenSl rfl Tryz.underlying47 rfl ?_
   refine L.ltI rfl rfl rfl ?_
   refine L.move rfl rfl ?_
   refine L.known (t := 9) rfl (show _ = Value.bool false from congrArg Value.bool (decide_eq_false (by omega))) ?_
   refine L.guardF (dj := 9) (c := false) rfl rfl rfl rfl rfl (by decide) ?_
   refine L.guardF (dj := 9) (c := false) rfl rfl rfl rfl rfl (by decide) ?_
   refine L.guardF (dj := 9) (c := false) rfl rfl rfl rfl rfl (by decide) ?_
   refine L.guardF (dj := 9) (c := false) rfl rfl rfl rfl rfl (by decide) ?_
   refine L.guardF (dj := 9) (c := false) rfl rfl rfl rfl rfl (by decide) ?_
   refine L.guardF (dj := 9) (c := false) rfl rfl rfl rfl rfl (by decide) ?_
   refine L.guardF (dj := 9) (c := false) rfl rfl rfl rfl rfl (by decide) ?_
   refine L.guardF (dj := 9) (c := false) rfl rfl rfl rfl rfl (by decide) ?_
   refine L.guardF (dj := 9) (c := false) rfl rfl rfl rfl rfl (by decide) ?_
   refine L.guardF (dj := 9) (c := false) rfl rfl rfl rfl rfl (by decide) ?_
   refine L.pickF rfl rfl rfl ?_
   refine L.nilQ ?_
   refine T.thenN ?_
   exact T.toJoin ⟨_, (by simp_all <;> omega), rfl, rfl, rfl⟩ (.cons (t := 20) rfl <| SubK.nil _) (.cons (t := 0) rfl <| .cons (t := 3) rfl <| .cons (t := 4) rfl <| SubK.nil _) qD qD qF
 rintro _ _ _ ⟨w, hw, rfl, rfl, rfl⟩
 refine T.norm3 qA qA qA ?_
 refine T.thenN ?_
 refine T.cond rfl (fun h20 => ?_) (fun h20 => ?_)
 ·try simp only [dq] at h20
  have hwt := hw.1 h20
  refine T.skip (T.thenN (T.seq (T.block (T.seq ?_))))
  have hzi : (z :: l)[i]? = some (gd (z :: l) i) := gd_get (by simp only [List.length_cons]; omega)
  obtain ⟨y, hyy⟩ : ∃ y, y = gd (z :: l) i := ⟨_, rfl⟩
  rw [← hyy] at hzi hwt
  have hst := ch_step hzi hi1 hwt.2
  refine T.regionQ qk qk ?_
  refine L.move rfl rfl ?_
  refine L.move rfl rfl ?_
  refine L.idxR (i := i) rfl Tryz.underlying47 sz149 rfl rfl qM (by first | rfl | omega | (simp; done)) qI qG ?_
  first | refine L.field0 rfl fo149_0 rfl ?_ | refine L.field rfl fo149_0 rfl ?_
  refine L.load rfl sc3 rfl qC ?_
  refine L.move rfl rfl ?_
  refine L.idxR (i := 0) rfl Tryz.underlying47 sz149 rfl rfl qM (by first | rfl | omega | (simp; done)) qI qG ?_
  first | refine L.field0 rfl fo149_0 rfl ?_ | refine L.field rfl fo149_0 rfl ?_
  refine L.load rfl sc3 rfl qC ?_
  refine L.addN rfl rfl rfl (by omega) ?_
  refine L.eqI rfl rfl rfl ?_
  refine L.nilQ ?_
  refine T.thenN ?_
  refine T.cond rfl (fun h33 => ?_) (fun h33 => ?_)
  ·try simp only [dq] at h33
   refine T.region ?_
   refine L.move rfl rfl ?_
   refine L.addN rfl rfl rfl (by omega) ?_
   refine L.assign rfl rfl ?_
   refine L.nil ?_
   refine T.blkN (T.thenN (T.region ?_))
   refine L.move rfl rfl ?_
   refine L.addN rfl rfl rfl (by omega) ?_
   refine L.assign rfl rfl ?_
   refine L.nil ?_
   refine T.thenN ?_
   exact T.back ⟨i + 1, c + 1, ⟨by omega, by rw [hI, hst, if_pos (by omega)]; omega⟩, rfl, rfl, rfl, rfl⟩ qI (.cons (t := 4) rfl <| .cons (t := 3) rfl <| SubK.nil _) (.cons (t := 0) rfl <| SubK.nil _) qD qD qF
  ·try simp only [dq] at h33
   refine T.skip (T.blkN (T.thenN (T.region ?_)))
   refine L.move rfl rfl ?_
   refine L.addN rfl rfl rfl (by omega) ?_
   refine L.assign rfl rfl ?_
   refine L.nil ?_
   refine T.thenN ?_
   exact T.back ⟨i + 1, c, ⟨by omega, by rw [hI, hst, if_neg (by omega)]; omega⟩, rfl, rfl, rfl, rfl⟩ qI (.cons (t := 4) rfl <| .cons (t := 3) rfl <| SubK.nil _) (.cons (t := 0) rfl <| SubK.nil _) qD qD qF
 ·try simp only [dq] at h20
  have hwf : ¬ (i < len ∧ z.dep < (gd (z :: l) i).dep) := fun q => by rw [hw.2 q] at h20; cases h20
  refine T.exit (T.thenX (T.thenX (T.blkX (T.thenN (T.seq (T.region ?_))))))
  refine L.move rfl rfl ?_
  refine L.assign rfl rfl ?_
  refine L.nil ?_
  refine T.thenN (T.ret ?_)
  exact T.ret1 rfl rfl ⟨congrArg (Value.int .i64) (by rw [hI, ch_stop hi1 (fun y hy => by by_cases q : i < len; (have := gd_of hy; rw [← this]; omega); (have := (List.getElem?_eq_some_iff.1 hy).1; simp only [List.length_cons] at this; omega))]; omega), rfl, rfl⟩ qD qF
set_option maxHeartbeats 400000 in
theorem text_spec {a : Option Addr} {len cap : Nat} {l : List Nd} (hb : len ≤ 1000000) (hsm : ∀ z ∈ l, (0 ≤ z.k ∧ z.k ≤ 4) ∧ z.n.length ≤ 20000 ∧ z.t.length ≤ 20000 ∧ z.dep ≤ 1000000) : Spec Tryz.prog 40 [.slice a len cap] [rsl 7 a len cap (l.map nrow)] [] (fun v D' M' => v = S (textF l) ∧ D' = [] ∧ M' = []) := by
 refine Spec.intro (n := 44) Tryz.func40 rfl rfl (by decide) (Nat.le_of_ble_eq_true rfl) rfl (fun _ => qA) (fun _ => qA) ?_
 intro σ D M
 refine T.rslLen2 qM (fun hl hcc => ?_)
 rw [List.length_map] at hl
 refine T.seq (T.region ?_)
 refine L.assign rfl rfl ?_
 refine L.nil ?_
 refine T.thenN (T.seq (T.region ?_))
 refine L.assign rfl rfl ?_
 refine L.nil ?_
 refine T.thenN (T.seq (T.seq (T.region ?_)))
 refine L.move rfl rfl ?_
 refine L.lenSl rfl Tryz.underlying47 rfl ?_
 refine L.move rfl rfl ?_
 refine L.nil ?_
 refine T.thenN (T.block ?_)
 refine T.loop (fun K' D' M' μ => ∃ (i : Nat) (acc : List UInt8), ((i ≤ len ∧ acc.length ≤ 4 + 50000 * i) ∧ ((i = 0 ∧ acc = mark) ∨ (0 < i ∧ textF l = acc ++ textL (l.drop i)))) ∧ K' = [(8, .int .i64 i), (3, S acc)] ∧ D' = [] ∧ M' = [] ∧ μ = len - i) (.cons (t := 0) rfl <| .cons (t := 6) rfl <| .cons (t := 7) rfl <| SubK.nil _) (⟨0, mark, ⟨⟨by omega, by decide⟩, .inl ⟨rfl, rfl⟩⟩, rfl, rfl, rfl, rfl⟩) (.cons (t := 8) rfl <| .cons (t := 3) rfl <| SubK.nil _) qD qS ?_
 rintro K1 D1 M1 m1 ⟨i, acc, ⟨⟨hi, hal⟩, hI⟩, rfl, rfl, rfl, rfl⟩
 refine T.norm3 qA qA qA ?_
 refine T.seq (T.region ?_)
 refine L.ltI rfl rfl rfl ?_
 refine L.nil ?_
 refine T.thenN (T.seq ?_)
 refine T.cond rfl (fun h9 => ?_) (fun h9 => ?_)
 ·try simp only [dq] at h9
  refine T.skip (T.thenN (T.seq (T.block (T.seq ?_))))
  have hz : l[i]? = some (gd l i) := gd_get (by omega)
  obtain ⟨z, hzz⟩ : ∃ z, z = gd l i := ⟨_, rfl⟩
  rw [← hzz] at hz
  have hzs := hsm z (List.mem_of_getElem? hz)
  have hn1 := numB_len (n := z.k.toNat) (by omega)
  have hzd : l.drop i = z :: l.drop (i + 1) := by rw [List.drop_eq_getElem_cons (by omega)]; congr 1; exact (List.getElem?_eq_some_iff.1 hz).2
  have hch := chF_le z.dep (l.drop (i + 1))
  rw [List.length_drop] at hch
  have hn2 := numB_len (n := chF z.dep (l.drop (i + 1))) (by omega)
  have hs1 := strB_len (s := z.n) (by omega)
  have hs2 := strB_len (s := z.t) (by omega)
  refine T.region ?_
  refine L.move rfl rfl ?_
  refine L.idx (i := i) rfl Tryz.underlying47 sz149 rfl rfl qM (by first | rfl | omega | (simp; done)) qG (fun b11 o11 => ?_)
  refine L.loadA rfl ag149 rfl qN ?_
  refine L.alloc rfl ze149 (fun b5 => ?_)
  refine L.assign rfl rfl ?_
  refine L.storeA ag149 rfl rfl qL qO qU qW ?_
  refine L.nil ?_
  refine T.freeze (A := cl b5 149 (nrow z)) qP ?_
  refine T.thenN (T.seq (T.seq (T.region ?_)))
  refine L.move rfl rfl ?_
  refine L.gtI rfl rfl rfl ?_
  refine L.nil ?_
  refine T.thenN ?_
  refine T.cutC (fun K' D' M' => ∃ (s1 : List UInt8), (s1 = acc ++ (if 0 < i then strB z.n else [])) ∧ K' = [(3, S s1)] ∧ D' = [] ∧ M' = []) (M0 := []) (.cons (t := 0) rfl <| .cons (t := 4) rfl <| .cons (t := 5) rfl <| .cons (t := 6) rfl <| .cons (t := 7) rfl <| .cons (t := 8) rfl <| SubK.nil _) qS ?_ ?_
  ·skip
   refine T.cond rfl (fun h14 => ?_) (fun h14 => ?_)
   ·try simp only [dq] at h14
    refine T.region ?_
    refine L.move rfl rfl ?_
    first | refine L.field0 rfl fo149_1 rfl ?_ | refine L.field rfl fo149_1 rfl ?_
    refine L.load rfl sc9 rfl qC ?_
    refine L.callF rfl (evs.cons rfl <| evs.nil) qD qS (rstr_spec (s := z.n) (by omega)) (by rintro u D1 M1 ⟨rfl, rfl, rfl⟩; exact ⟨rfl, _, qA, qF⟩) ?_
    refine L.addS rfl rfl rfl qI ?_
    refine L.assign rfl rfl ?_
    refine L.nil ?_
    refine T.thenN ?_
    exact T.toJoin ⟨_, (by rw [if_pos (by omega)]), rfl, rfl, rfl⟩ (.cons (t := 3) rfl <| SubK.nil _) (.cons (t := 0) rfl <| .cons (t := 4) rfl <| .cons (t := 5) rfl <| .cons (t := 6) rfl <| .cons (t := 7) rfl <| .cons (t := 8) rfl <| SubK.nil _) qD qD qF
   ·try simp only [dq] at h14
    refine T.skip (T.thenN ?_)
    exact T.toJoin ⟨_, (by rw [if_neg (by omega)]; simp), rfl, rfl, rfl⟩ (.cons (t := 3) rfl <| SubK.nil _) (.cons (t := 0) rfl <| .cons (t := 4) rfl <| .cons (t := 5) rfl <| .cons (t := 6) rfl <| .cons (t := 7) rfl <| .cons (t := 8) rfl <| SubK.nil _) qD qD qF
  rintro _ _ _ ⟨s1, hs1e, rfl, rfl, rfl⟩
  refine T.norm3 qA qA qA ?_
  have hs1l : s1.length ≤ acc.length + 20009 := by rw [hs1e, List.length_append]; split <;> simp <;> omega
  refine T.thenN (T.seq (T.region ?_))
  refine L.move rfl rfl ?_
  first | refine L.field0 rfl fo149_2 rfl ?_ | refine L.field rfl fo149_2 rfl ?_
  refine L.load rfl sc3 rfl qC ?_
  rw [show z.k = ((z.k.toNat : Nat) : Int) by omega]
  refine L.convU rfl Tryz.underlying3 Tryz.underlying117 rfl qI ?_
  refine L.callF rfl (evs.cons rfl <| evs.nil) qD qS (rnum_spec (n := z.k.toNat) (by omega)) (by rintro u D1 M1 ⟨rfl, rfl, rfl⟩; exact ⟨rfl, _, qA, qF⟩) ?_
  refine L.addS rfl rfl rfl qI ?_
  refine L.assign rfl rfl ?_
  refine L.nil ?_
  refine T.thenN (T.seq (T.region ?_))
  first | refine L.field0 rfl fo149_2 rfl ?_ | refine L.field rfl fo149_2 rfl ?_
  refine L.load rfl sc3 rfl qC ?_
  refine L.eqI rfl rfl rfl ?_
  refine L.nil ?_
  refine T.thenN ?_
  refine T.cutC (fun K' D' M' => ∃ (s3 : List UInt8), (s3 = s1 ++ ndT z (l.drop (i + 1))) ∧ K' = [(3, S s3)] ∧ D' = [] ∧ M' = []) (M0 := []) (.cons (t := 0) rfl <| .cons (t := 6) rfl <| .cons (t := 7) rfl <| .cons (t := 8) rfl <| SubK.nil _) qS ?_ ?_
  ·skip
   refine T.cond rfl (fun h28 => ?_) (fun h28 => ?_)
   ·try simp only [dq] at h28
    refine T.region ?_
    refine L.move rfl rfl ?_
    refine L.move rfl rfl ?_
    refine L.move rfl rfl ?_
    refine L.sliceR rfl Tryz.underlying47 sz149 rfl (Bd.at (x := i) rfl (by first | rfl | omega | (simp; done))) Bd.no qM qI qI qI (fun a32 => ?_)
    rw [List.take_of_length_le (by rw [List.length_drop, List.length_map]; omega), ← List.map_drop, hzd]
    refine L.callF rfl (evs.cons rfl <| evs.nil) qD qS (child_spec (z := z) (l := l.drop (i + 1)) (by omega) (by omega)) (by rintro u D1 M1 ⟨rfl, rfl, rfl⟩; exact ⟨rfl, _, qA, qF⟩) ?_
    refine L.convU rfl Tryz.underlying3 Tryz.underlying117 rfl qI ?_
    refine L.callF rfl (evs.cons rfl <| evs.nil) qD qS (rnum_spec (n := chF z.dep (l.drop (i + 1))) (by omega)) (by rintro u D1 M1 ⟨rfl, rfl, rfl⟩; exact ⟨rfl, _, qA, qF⟩) ?_
    refine L.addS rfl rfl rfl qI ?_
    refine L.assign rfl rfl ?_
    refine L.nil ?_
    refine T.thenN ?_
    exact T.toJoin ⟨_, (by rw [ndT, if_pos (by omega)]; simp), rfl, rfl, rfl⟩ (.cons (t := 3) rfl <| SubK.nil _) (.cons (t := 0) rfl <| .cons (t := 6) rfl <| .cons (t := 7) rfl <| .cons (t := 8) rfl <| SubK.nil _) qD qD qF
   ·try simp only [dq] at h28
    refine T.region ?_
    refine L.move rfl rfl ?_
    first | refine L.field0 rfl fo149_3 rfl ?_ | refine L.field rfl fo149_3 rfl ?_
    refine L.load rfl sc9 rfl qC ?_
    refine L.callF rfl (evs.cons rfl <| evs.nil) qD qS (rstr_spec (s := z.t) (by omega)) (by rintro u D1 M1 ⟨rfl, rfl, rfl⟩; exact ⟨rfl, _, qA, qF⟩) ?_
    refine L.addS rfl rfl rfl qI ?_
    refine L.assign rfl rfl ?_
    refine L.nil ?_
    refine T.thenN ?_
    exact T.toJoin ⟨_, (by rw [ndT, if_neg (by omega)]; simp), rfl, rfl, rfl⟩ (.cons (t := 3) rfl <| SubK.nil _) (.cons (t := 0) rfl <| .cons (t := 6) rfl <| .cons (t := 7) rfl <| .cons (t := 8) rfl <| SubK.nil _) qD qD qF
  rintro _ _ _ ⟨s3, hs3, rfl, rfl, rfl⟩
  refine T.norm3 qA qA qA ?_
  have hs3l : s3.length ≤ s1.length + 20018 := by rw [hs3, List.length_append, ndT, List.length_append]; split <;> omega
  have hs3b : s3.length ≤ 4 + 50000 * (i + 1) := by rw [Nat.mul_add]; exact Nat.le_trans hs3l (by omega)
  refine T.blkN (T.thenN (T.region ?_))
  refine L.addN rfl rfl rfl (by omega) ?_
  refine L.move rfl rfl ?_
  refine L.nil ?_
  refine T.thenN ?_
  exact T.back ⟨i + 1, s3, ⟨⟨by omega, hs3b⟩, .inr ⟨by omega, text_next hz hI hs1e hs3⟩⟩, rfl, rfl, rfl, rfl⟩ qI (.cons (t := 8) rfl <| .cons (t := 3) rfl <| SubK.nil _) (.cons (t := 0) rfl <| .cons (t := 6) rfl <| .cons (t := 7) rfl <| SubK.nil _) qD qD qF
 ·try simp only [dq] at h9
  refine T.exit (T.thenX (T.thenX (T.blkX (T.thenN (T.seq (T.region ?_))))))
  refine L.move rfl rfl ?_
  refine L.assign rfl rfl ?_
  refine L.nil ?_
  refine T.thenN (T.ret ?_)
  exact T.ret1 rfl rfl ⟨congrArg S (text_end hI (by omega)), rfl, rfl⟩ qD qF
end Cv
