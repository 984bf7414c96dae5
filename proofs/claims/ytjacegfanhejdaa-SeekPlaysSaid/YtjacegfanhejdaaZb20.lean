/-
  The walks: the law that any calls do what they should.
-/
import Derived.Test.YtjacegfanhejdaaZa20
import Derived.Test.YtjacegfanhejdaaProg
import Derived.KernelRfl
set_option linter.unusedVariables false
set_option linter.unusedSimpArgs false
set_option linter.unusedSectionVars false
set_option maxRecDepth 10000
namespace Cv
open Go Go.Proofs
theorem sz50 : Sz Try.prog 50 6 := fun w => by kernel_rfl
theorem ag50 : Ag Try.prog 50 6 := fun w => ⟨by kernel_rfl, by kernel_rfl⟩
theorem zv50 : ∀ w, (zeroValue 50).run Try.prog w = .ok (Value.agg #[Value.int .i64 0, Value.int .i64 0, Value.int .i64 0, Value.bool false, Value.slice none 0 0, Value.slice none 0 0]) w := fun w => by kernel_rfl
theorem ze50 : Ze Try.prog 50 [Value.int .i64 0, Value.int .i64 0, Value.int .i64 0, Value.bool false, Value.slice none 0 0, Value.slice none 0 0] := ⟨_, rfl, zv50⟩
theorem fo50_0 : Fo Try.prog 50 0 0 := fun a w => by kernel_rfl
theorem fo50_1 : Fo Try.prog 50 1 1 := fun a w => by kernel_rfl
theorem fo50_2 : Fo Try.prog 50 2 2 := fun a w => by kernel_rfl
theorem fo50_4 : Fo Try.prog 50 4 4 := fun a w => by kernel_rfl
theorem fo50_5 : Fo Try.prog 50 5 5 := fun a w => by kernel_rfl
theorem ze38 : Ze Try.prog 38 (Value.int .i64 0 :: Value.int .i64 0 :: Value.int .i64 0 :: Value.int .i64 0 :: Value.int .u8 0 :: Value.int .u8 0 :: Value.int .u8 0 :: Value.int .u8 0 :: Value.int .u8 0 :: Value.int .u8 0 :: Value.int .u8 0 :: Value.int .u8 0 :: Value.int .u8 0 :: Value.int .u8 0 :: Value.int .u8 0 :: Value.int .u8 0 :: Value.int .u8 0 :: Value.int .u8 0 :: Value.int .u8 0 :: Value.int .u8 0 :: Value.int .u8 0 :: Value.int .u8 0 :: Value.int .u8 0 :: Value.int .u8 0 :: Value.int .u8 0 :: Value.int .u8 0 :: Value.int .u8 0 :: Value.int .u8 0 :: Value.int .u8 0 :: Value.int .u8 0 :: Value.int .u8 0 :: Value.int .u8 0 :: Value.int .u8 0 :: Value.int .u8 0 :: Value.int .u8 0 :: Value.int .u8 0 :: Value.int .i64 0 :: S [] :: Value.slice none 0 0 :: Value.slice none 0 0 :: []) := ⟨_, rfl, zv38⟩
theorem ag38 : Ag Try.prog 38 40 := fun w => ⟨by kernel_rfl, by kernel_rfl⟩
theorem fo50_3 : Fo Try.prog 50 3 3 := fun a w => by kernel_rfl
set_option maxHeartbeats 1000000 in
theorem seekplays_law (s : List UInt8) (a1 : Int) (a2 : Option Addr) (len2 cap2 : Nat) (xs2 : List Int) (a3 : Option Addr) (len3 cap3 : Nat) (zs : List AR) (hz : zs.length = len3)  : Spec Try.prog 6 [S s, .int .i64 a1, .slice a2 len2 cap2, .slice a3 len3 cap3] [rsl 1 a2 len2 cap2 (xs2.map e3), rsl 6 a3 len3 cap3 (zs.map aE), aA zs] [] (fun v D' M' => v = .bool true ∧ D' = [] ∧ M' = []) := by
  refine Spec.intro (n := 156) Try.func6 rfl rfl (by decide) (Nat.le_of_ble_eq_true rfl) rfl (fun _ => qA) (fun _ => qA) ?_
  intro σ D M
  have hnl := nmF_len s
  refine T.rslLen2 (rows := xs2.map e3) qM (fun hxl hxc => ?_)
  rw [List.length_map] at hxl
  refine T.seq ?_
  refine T.region ?_
  refine L.assign rfl rfl ?_
  refine L.nil ?_
  refine T.thenN ?_
  refine T.seq ?_
  refine T.seq ?_
  refine T.region ?_
  refine L.call rfl (evs.nil) qD qS (awake_spec) ?_
  rintro _ _ _ ⟨rfl, rfl, rfl⟩
  refine L.norm qA qA ?_
  refine L.notB rfl rfl ?_
  refine L.nil ?_
  refine T.thenN ?_
  refine T.condF rfl rfl ?_
  refine T.skip ?_
  refine T.thenN ?_
  refine T.seq ?_
  refine T.region ?_
  refine L.move rfl rfl ?_
  refine L.call rfl (evs.cons rfl <| evs.nil) qD qS (name_spec) ?_
  rintro _ _ _ ⟨rfl, rfl, rfl⟩
  refine L.norm qA qA ?_
  refine L.alloc rfl ze27 (fun b9 => ?_)
  refine L.storeA ag27 rfl rfl qL qO qU qW ?_
  refine L.nil ?_
  refine T.freeze (A := cl b9 27 ((nmF s).map Y)) qP ?_
  obtain ⟨ks, hks⟩ : ∃ ks, ks = xs2.take 20 := ⟨_, rfl⟩
  refine T.thenN ?_
  refine T.seq ?_
  refine T.seq ?_
  refine T.region ?_
  refine L.move rfl rfl ?_
  refine L.lenSl rfl Try.underlying22 rfl ?_
  refine L.gtI rfl rfl rfl ?_
  refine L.nil ?_
  refine T.thenN ?_
  refine T.cutC (fun K' D' M' => ∃ (n2 c2 : Nat), (n2 ≤ 20) ∧ K' = [(2, .slice a2 n2 c2)] ∧ D' = [rsl 1 a2 n2 c2 (ks.map e3)] ∧ M' = []) (M0 := []) (.cons (t := 1) rfl <| .cons (t := 3) rfl <| .cons (t := 9) rfl <| SubK.nil _) qS ?_ ?_
  · skip
    refine T.cond rfl (fun h28 => ?_) (fun h28 => ?_)
    · try simp only [decide_eq_true_eq, decide_eq_false_iff_not, Bool.not_eq_true', Bool.not_eq_false', Bool.and_eq_true, Bool.or_eq_true] at h28
      refine T.derive (φ := rsl 1 a2 len2 cap2 (xs2.map e3)) (ψ := rsl 1 a2 20 cap2 (ks.map e3)) qM (fun z H => by rw [hks, List.map_take]; exact rsl_to (by omega) H) ?_
      refine T.region ?_
      refine L.move rfl rfl ?_
      refine L.sliceTo rfl Try.underlying22 sz3 rfl (Bd.at (x := 20) rfl (by first | rfl | omega | (simp; done))) qI ?_
      refine L.assign rfl rfl ?_
      refine L.nil ?_
      refine T.thenN ?_
      exact T.toJoin ⟨_, _, (by omega), rfl, rfl, rfl⟩ (.cons (t := 2) rfl <| SubK.nil _) (.cons (t := 1) rfl <| .cons (t := 3) rfl <| .cons (t := 9) rfl <| SubK.nil _) qD qD qF
    · try simp only [decide_eq_true_eq, decide_eq_false_iff_not, Bool.not_eq_true', Bool.not_eq_false', Bool.and_eq_true, Bool.or_eq_true] at h28
      refine T.derive (φ := rsl 1 a2 len2 cap2 (xs2.map e3)) (ψ := rsl 1 a2 len2 cap2 (ks.map e3)) qM (fun z H => by rw [hks, List.take_of_length_le (by omega)]; exact H) ?_
      refine T.skip ?_
      refine T.thenN ?_
      exact T.toJoin ⟨_, _, (by omega), rfl, rfl, rfl⟩ (.cons (t := 2) rfl <| SubK.nil _) (.cons (t := 1) rfl <| .cons (t := 3) rfl <| .cons (t := 9) rfl <| SubK.nil _) qD qD qF
  rintro _ _ _ ⟨n2, c2, hn2, rfl, rfl, rfl⟩
  refine T.norm3 qA qA qA ?_
  refine T.thenN ?_
  refine T.seq ?_
  refine T.region ?_
  refine L.loadA rfl ag27 rfl qN ?_
  refine L.move rfl rfl ?_
  refine L.move rfl rfl ?_
  refine L.call rfl (evs.cons rfl <| evs.cons rfl <| evs.cons rfl <| evs.nil) qD qS (snew_spec (g := nmF s) (o := a1) (ns := ks) hnl (by omega)) ?_
  rintro _ _ _ ⟨sb, sm1, sm2, rfl, rfl, rfl⟩
  refine L.norm qA qA ?_
  refine L.assign rfl rfl ?_
  refine L.nil ?_
  refine T.thenN ?_
  refine T.seq ?_
  refine T.region ?_
  refine L.loadA rfl ag27 rfl qN ?_
  refine L.call rfl (evs.cons rfl <| evs.nil) qD qS (obytes_spec (l := nmF s) hnl) ?_
  rintro _ _ _ ⟨rfl, rfl, rfl⟩
  refine L.norm qA qA ?_
  refine L.move rfl rfl ?_
  refine L.move rfl rfl ?_
  refine L.call rfl (evs.cons rfl <| evs.cons rfl <| evs.cons rfl <| evs.nil) qD qS (rnew_spec (g := nmF s) (o := a1) (ns := ks) (by omega)) ?_
  rintro _ _ _ ⟨p, rfl, rfl, rfl⟩
  refine L.norm qA qA ?_
  have hR0 := RS.meet (o := a1) (lh := []) (si := List.replicate 64 0) (hv := List.replicate 64 false) (Int.le_refl 0) (ns := ks) RS.zero
  refine L.alloc rfl ze46 (fun b11 => ?_)
  refine L.storeA ag46 rfl rfl qL qO qU qW ?_
  refine L.nil ?_
  refine T.thenN ?_
  refine T.seq ?_
  refine T.region ?_
  refine L.assign rfl rfl ?_
  refine L.nil ?_
  refine T.thenN ?_
  refine T.seq ?_
  refine T.seq ?_
  refine T.region ?_
  refine L.assign rfl rfl ?_
  refine L.nil ?_
  refine T.thenN ?_
  refine T.block ?_
  refine T.loop (fun K' D' M' μ => ∃ (i : Nat) (now : Int) (lo : OfM) (lh : List (Int × Int)) (p : XP) (st si : List Int) (hv : List Bool), ((i ≤ len3 ∧ i ≤ 50) ∧ (0 ≤ now ∧ now ≤ 15 * (i : Int)) ∧ RS a1 lo lh st si hv now) ∧ K' = [(13, .int .i64 i), (12, .int .i64 now)] ∧ D' = [rsl 1 p.1.1 64 p.1.2 (st.map e3), rsl 1 p.2.1.1 64 p.2.1.2 (si.map e3), rsl 1 p.2.2.1 64 p.2.2.2 (hv.map e4)] ∧ M' = [mp sm1 iK oneV lo, mp sm2 iK iK lh, cl b11 46 (xV (nmF s) a1 p)] ∧ μ = 50 - i) (.cons (t := 3) rfl <| .cons (t := 9) rfl <| .cons (t := 10) rfl <| .cons (t := 11) rfl <| SubK.nil _) (⟨0, 0, meetF a1 [] ks, [], p, rmeetF a1 (List.replicate 64 (-1)) ks, List.replicate 64 0, List.replicate 64 false, ⟨by omega, by omega, hR0⟩, rfl, rfl, rfl, rfl⟩) (.cons (t := 13) rfl <| .cons (t := 12) rfl <| SubK.nil _) qD qS ?_
  rintro K1 D1 M1 m1 ⟨i, now, lo, lh, p, st, si, hv, ⟨⟨hi1, hi2⟩, hnow0, hR⟩, rfl, rfl, rfl, rfl⟩
  refine T.norm3 qA qA qA ?_
  refine T.mpNodup (kenc := iK) (venc := oneV) (b := sm1) qM (fun hnd => ?_)
  refine T.seq ?_
  refine T.seq ?_
  refine T.cutC (fun K' D' M' => ∃ (w : Bool), (w = true ↔ (i < len3 ∧ i < 50)) ∧ K' = [(47, .bool w)] ∧ D' = [] ∧ M' = []) (M0 := []) (.cons (t := 3) rfl <| .cons (t := 9) rfl <| .cons (t := 10) rfl <| .cons (t := 11) rfl <| .cons (t := 12) rfl <| .cons (t := 13) rfl <| SubK.nil _) qS ?_ ?_
  · skip
    refine T.region ?_
    refine L.move rfl rfl ?_
    refine L.move rfl rfl ?_
    refine L.lenSl rfl Try.underlying43 rfl ?_
    refine L.ltI rfl rfl rfl ?_
    refine L.move rfl rfl ?_
    refine L.part (t := 44) rfl (fun h1 => ?_) (fun h1 => ?_)
    · try simp only [decide_eq_true_eq, decide_eq_false_iff_not, Bool.not_eq_true', Bool.not_eq_false', Bool.and_eq_true, Bool.or_eq_true] at h1
      refine L.guardT (dj := 44) rfl rfl rfl ?_
      refine L.move rfl rfl ?_
      refine L.guardT (dj := 44) rfl rfl rfl ?_
      refine L.ltI rfl rfl rfl ?_
      refine L.pickT rfl rfl rfl ?_
      refine L.nil ?_
      refine T.thenN ?_
      exact T.toJoin ⟨_, (by simp; omega), rfl, rfl, rfl⟩ (.cons (t := 47) rfl <| SubK.nil _) (.cons (t := 3) rfl <| .cons (t := 9) rfl <| .cons (t := 10) rfl <| .cons (t := 11) rfl <| .cons (t := 12) rfl <| .cons (t := 13) rfl <| SubK.nil _) qD qD qF
    · try simp only [decide_eq_true_eq, decide_eq_false_iff_not, Bool.not_eq_true', Bool.not_eq_false', Bool.and_eq_true, Bool.or_eq_true] at h1
      refine L.guardF (dj := 44) (c := false) rfl rfl rfl rfl rfl (by decide) ?_
      refine L.guardF (dj := 44) (c := false) rfl rfl rfl rfl rfl (by decide) ?_
      refine L.pickF rfl rfl rfl ?_
      refine L.nil ?_
      refine T.thenN ?_
      exact T.toJoin ⟨_, (by simp; omega), rfl, rfl, rfl⟩ (.cons (t := 47) rfl <| SubK.nil _) (.cons (t := 3) rfl <| .cons (t := 9) rfl <| .cons (t := 10) rfl <| .cons (t := 11) rfl <| .cons (t := 12) rfl <| .cons (t := 13) rfl <| SubK.nil _) qD qD qF
  rintro _ _ _ ⟨w, hw, rfl, rfl, rfl⟩
  refine T.norm3 qA qA qA ?_
  refine T.thenN ?_
  refine T.cond rfl (fun h47 => ?_) (fun h47 => ?_)
  · try simp only [decide_eq_true_eq, decide_eq_false_iff_not, Bool.not_eq_true', Bool.not_eq_false', Bool.and_eq_true, Bool.or_eq_true] at h47
    have hwt := hw.1 h47
    refine T.skip ?_
    refine T.thenN ?_
    refine T.seq ?_
    refine T.block ?_
    refine T.seq ?_
    have hgi : zs[i]? = some (gd zs i) := gd_get (by omega)
    obtain ⟨z, hzz⟩ : ∃ x, x = gd zs i := ⟨_, rfl⟩
    rw [← hzz] at hgi
    refine T.region ?_
    refine L.move rfl rfl ?_
    refine L.move rfl rfl ?_
    refine L.idx (i := i) rfl Try.underlying43 sz50 rfl rfl qM (by first | rfl | omega | (simp; done)) qG (fun b52 o52 => ?_)
    refine L.loadA rfl ag50 rfl qN ?_
    refine L.alloc rfl ze50 (fun b14 => ?_)
    refine L.storeA ag50 rfl rfl qL qO qU qW ?_
    refine L.nil ?_
    refine T.freeze (A := cl b14 50 (aE z)) qP ?_
    refine T.derive (φ := aA zs) (ψ := rsl 1 z.2.1.1 z.2.1.2.1 z.2.1.2.2.1 (z.2.1.2.2.2.map e3)) qM (fun h H => (H z (List.mem_of_getElem? hgi)).1) ?_
    refine T.derive (φ := aA zs) (ψ := rsl 1 z.2.2.1 z.2.2.2.1 z.2.2.2.2.1 (z.2.2.2.2.2.map e3)) qM (fun h H => (H z (List.mem_of_getElem? hgi)).2.1) ?_
    refine T.fact (φ := aA zs) qM (fun h H => (H z (List.mem_of_getElem? hgi)).2.2) (fun hzb => ?_)
    refine T.thenN ?_
    refine T.seq ?_
    refine T.seq ?_
    refine T.region ?_
    first | refine L.field0 rfl fo50_0 rfl ?_ | refine L.field rfl fo50_0 rfl ?_
    refine L.load rfl sc3 rfl qC ?_
    refine L.nil ?_
    refine T.thenN ?_
    refine T.cutC (fun K' D' M' => ∃ (nowb : Int) (lo : OfM) (lh : List (Int × Int)) (p : XP) (st si : List Int) (hv : List Bool), ((now ≤ nowb ∧ nowb ≤ now + 15) ∧ RS a1 lo lh st si hv nowb) ∧ K' = [(12, .int .i64 nowb)] ∧ D' = [rsl 1 p.1.1 64 p.1.2 (st.map e3), rsl 1 p.2.1.1 64 p.2.1.2 (si.map e3), rsl 1 p.2.2.1 64 p.2.2.2 (hv.map e4)] ∧ M' = [mp sm1 iK oneV lo, mp sm2 iK iK lh, cl b11 46 (xV (nmF s) a1 p)]) (M0 := [mp sm1 iK oneV lo, mp sm2 iK iK lh, cl b11 46 (xV (nmF s) a1 p)]) (.cons (t := 3) rfl <| .cons (t := 9) rfl <| .cons (t := 10) rfl <| .cons (t := 11) rfl <| .cons (t := 13) rfl <| SubK.nil _) qS ?_ ?_
    · skip
      refine T.block ?_
      refine T.seq ?_
      refine T.region ?_
      refine L.eqI rfl rfl rfl ?_
      refine L.assign rfl rfl ?_
      refine L.nil ?_
      refine T.thenN ?_
      refine T.cond rfl (fun h56 => ?_) (fun h56 => ?_)
      · try simp only [decide_eq_true_eq, decide_eq_false_iff_not, Bool.not_eq_true', Bool.not_eq_false', Bool.and_eq_true, Bool.or_eq_true] at h56
        refine T.seq ?_
        refine T.region ?_
        refine L.move rfl rfl ?_
        first | refine L.field0 rfl fo50_1 rfl ?_ | refine L.field rfl fo50_1 rfl ?_
        refine L.load rfl sc3 rfl qC ?_
        refine L.andM rfl rfl rfl (k := 4) (by decide) (by decide) ?_
        refine L.addN rfl rfl rfl (by omega) ?_
        refine L.assign rfl rfl ?_
        refine L.nil ?_
        obtain ⟨now2, hnow2, hnw⟩ : ∃ n : Int, now + z.1.2.1 % (15 + 1) = n ∧ now ≤ n ∧ n ≤ now + 15 := ⟨_, rfl, by omega, by omega⟩
        rw [hnow2]
        refine T.thenN ?_
        refine T.seq ?_
        refine T.region ?_
        refine L.move rfl rfl ?_
        refine L.move rfl rfl ?_
        refine L.call rfl (evs.cons rfl <| evs.cons rfl <| evs.nil) qD qS (ask_spec (g := nmF s) (o := a1) (m1 := sm1) (m2 := sm2) (lo := lo) (now := now2) hnl (hR.len hnd) (hR.since hnd (by omega)) (by omega)) ?_
        rintro _ _ _ ⟨la, ln, lc, ys, out, l2, rfl, hS, hA, hol, rfl, rfl⟩
        refine L.norm qA qA ?_
        refine L.assign rfl rfl ?_
        refine L.nil ?_
        refine T.ownRsl (a := la) (rows := out.map e3) qP ?_
        have hln : ln ≤ 3 := by have h5 := (ask_of hnd hS hA).2.2.2.1; omega
        refine T.thenN ?_
        refine T.seq ?_
        refine T.region ?_
        refine L.loadA rfl ag46 rfl qN ?_
        refine L.move rfl rfl ?_
        refine L.call rfl (evs.cons rfl <| evs.cons rfl <| evs.nil) qD qS (rask_spec (g := nmF s) (o := a1) (p := p) (st := st) (si := si) (now := now2) hnl (hR.sibs (by omega)) (by omega)) ?_
        rintro _ _ _ ⟨rq, rr, ra, rn, rc, st2, si2, out2, rfl, hRK, hrn, rfl, rfl⟩
        refine L.norm qA qA ?_
        obtain ⟨ho, hR2⟩ := hR.ask hnl hnd hnw.1 (by omega) hS hA hRK
        refine L.move rfl rfl ?_
        refine L.extract rfl rfl rfl ?_
        refine L.extract rfl rfl rfl ?_
        refine L.alloc rfl ze46 (fun b16 => ?_)
        refine L.storeA ag46 rfl rfl qL qO qU qW ?_
        refine L.assign rfl rfl ?_
        refine L.nil ?_
        refine T.ownRsl (a := ra) (rows := out2.map e3) qP ?_
        have hrn3 : rn ≤ 3 := by rw [← hrn, ← ho, hol]; exact hln
        refine T.thenN ?_
        refine T.seq ?_
        refine T.region ?_
        refine L.loadA rfl ag46 rfl qN ?_
        refine L.storeA ag46 rfl rfl qL qO qU qW ?_
        refine L.nil ?_
        refine T.thenN ?_
        refine T.seq ?_
        refine T.region ?_
        refine L.move rfl rfl ?_
        refine L.move rfl rfl ?_
        refine L.callF rfl (evs.cons rfl <| evs.cons rfl <| evs.nil) qD qS (same_spec (xs := out) (ys := out2) (by omega) (by omega)) (by rintro u D1 M1 ⟨rfl, rfl, rfl⟩; exact ⟨rfl, _, qA, qF⟩) ?_
        refine L.notB rfl rfl ?_
        refine L.nil ?_
        refine T.thenN ?_
        refine T.condF rfl (by rw [decide_eq_true ho]; rfl) ?_
        refine T.skip ?_
        refine T.blkN ?_
        refine T.thenN ?_
        exact T.toJoin ⟨now2, l2, lh, (rq, rr, p.2.2), st2, si2, hv, ⟨by omega, hR2⟩, rfl, rfl, rfl⟩ (.cons (t := 12) rfl <| SubK.nil _) (.cons (t := 3) rfl <| .cons (t := 9) rfl <| .cons (t := 10) rfl <| .cons (t := 11) rfl <| .cons (t := 13) rfl <| SubK.nil _) qD qD qF
      · try simp only [decide_eq_true_eq, decide_eq_false_iff_not, Bool.not_eq_true', Bool.not_eq_false', Bool.and_eq_true, Bool.or_eq_true] at h56
        refine T.seq ?_
        refine T.region ?_
        refine L.eqI rfl rfl rfl ?_
        refine L.assign rfl rfl ?_
        refine L.nil ?_
        refine T.thenN ?_
        refine T.cond rfl (fun h77 => ?_) (fun h77 => ?_)
        · try simp only [decide_eq_true_eq, decide_eq_false_iff_not, Bool.not_eq_true', Bool.not_eq_false', Bool.and_eq_true, Bool.or_eq_true] at h77
          have hot2 := tmod64 z.1.2.2.1
          obtain ⟨fr, hfr0⟩ : ∃ fr, fr = f64 z.1.2.2.1 := ⟨_, rfl⟩
          have hfr : 0 ≤ fr ∧ fr < 64 := by rw [hfr0]; exact f64_in _
          refine T.seq ?_
          refine T.cutC (fun K' D' M' => ∃ (b18 : Nat) (pa ha : Option Addr) (pn pc hn_ hc : Nat) (ps hs : List Int), (pn ≤ 8 ∧ hn_ ≤ 8 ∧ InR hs) ∧ K' = [(18, .pointer (some ⟨b18, 0, none⟩))] ∧ D' = [rsl 1 pa pn pc (ps.map e3), rsl 1 ha hn_ hc (hs.map e3)] ∧ M' = [cl b18 38 (letV 4 fr 0 0 (nmF s) 0 [] pa pn pc ha hn_ hc)]) (M0 := []) (.cons (t := 3) rfl <| .cons (t := 9) rfl <| .cons (t := 10) rfl <| .cons (t := 11) rfl <| .cons (t := 12) rfl <| .cons (t := 13) rfl <| .cons (t := 14) rfl <| SubK.nil _) qS ?_ ?_
          · skip
            refine T.regionA (clsL [1, 0, 1, 1, 1, 0, 1, 0, 0, 1, 0, 0, 1, 0, 2]) (by kernel_rfl) ?_
            refine A.takeP (i := 0) rfl rfl rfl rfl (by kernel_rfl) (by kernel_rfl) (by kernel_rfl) rfl qD ?_
            first | refine L.field0 rfl fo50_2 rfl ?_ | refine L.field rfl fo50_2 rfl ?_
            refine A.took ?_
            refine A.takeP (i := 6) rfl rfl rfl rfl (by kernel_rfl) (by kernel_rfl) (by kernel_rfl) rfl qD ?_
            first | refine L.field0 rfl fo50_4 rfl ?_ | refine L.field rfl fo50_4 rfl ?_
            refine A.took ?_
            refine A.takeP (i := 9) rfl rfl rfl rfl (by kernel_rfl) (by kernel_rfl) (by kernel_rfl) rfl qD ?_
            first | refine L.field0 rfl fo50_5 rfl ?_ | refine L.field rfl fo50_5 rfl ?_
            refine A.took ?_
            refine A.take (i := 1) rfl rfl rfl rfl (by kernel_rfl) (by kernel_rfl) (by kernel_rfl) (by kernel_rfl) rfl qD qF ?_
            refine L.load rfl sc3 rfl qC ?_
            refine A.took ?_
            refine A.takeP (i := 2) rfl rfl rfl rfl (by kernel_rfl) (by kernel_rfl) (by kernel_rfl) rfl qD ?_
            refine L.remI rfl rfl rfl (by decide) ?_
            refine A.took ?_
            refine A.takeP (i := 3) rfl rfl rfl rfl (by kernel_rfl) (by kernel_rfl) (by kernel_rfl) rfl qD ?_
            refine L.addN rfl rfl rfl (by omega) ?_
            refine A.took ?_
            refine A.takeP (i := 4) rfl rfl rfl rfl (by kernel_rfl) (by kernel_rfl) (by kernel_rfl) rfl qD ?_
            refine L.remI rfl rfl rfl (by decide) ?_
            refine L.known (t := 83) (u := .int .i64 fr) rfl (by rw [hfr0]; rfl) ?_
            refine A.took ?_
            refine A.take (i := 5) rfl rfl rfl rfl (by kernel_rfl) (by kernel_rfl) (by kernel_rfl) (by kernel_rfl) rfl qD qF ?_
            refine L.loadA rfl ag27 rfl qN ?_
            refine A.took ?_
            refine A.take (i := 7) rfl rfl rfl rfl (by kernel_rfl) (by kernel_rfl) (by kernel_rfl) (by kernel_rfl) rfl qD qF ?_
            refine L.load rfl sc22 rfl qC ?_
            refine A.took ?_
            refine A.take (i := 10) rfl rfl rfl rfl (by kernel_rfl) (by kernel_rfl) (by kernel_rfl) (by kernel_rfl) rfl qD qF ?_
            refine L.load rfl sc22 rfl qC ?_
            refine A.took ?_
            refine A.branch (is := [8, 13]) (by kernel_rfl) (by decide) (Each.cons rfl ?_ <| Each.cons rfl ?_ <| Each.nil) 
            · skip
              refine L.call rfl (evs.cons rfl <| evs.nil) qD qS (few_spec (xs := z.2.1.2.2.2)) ?_
              rintro _ _ _ ⟨pa, pn, pc, rfl, hp2, hp2l, rfl, rfl⟩
              refine L.norm qA qA ?_
              refine A.back rfl qD qF ?_
              refine A.branch (is := [11, 13]) (by kernel_rfl) (by decide) (Each.cons rfl ?_ <| Each.cons rfl ?_ <| Each.nil) 
              · skip
                refine L.call rfl (evs.cons rfl <| evs.nil) qD qS (few_spec (xs := z.2.2.2.2.2)) ?_
                rintro _ _ _ ⟨ha, hn_, hc, rfl, hh2, hh2l, rfl, rfl⟩
                refine L.norm qA qA ?_
                refine A.back rfl qD qF ?_
                refine A.takeP (i := 12) rfl rfl rfl rfl (by kernel_rfl) (by kernel_rfl) (by kernel_rfl) rfl qD ?_
                refine L.build rfl bu38 (BP.one rfl rfl rfl <| BP.one rfl rfl rfl <| BP.skip <| BP.skip <| BP.agg rfl rfl (by first | with_reducible assumption | (simp; done) | (simp only [List.length_map]; with_reducible assumption) | (simp [*]; done) | rfl) (Nat.le_of_ble_eq_true rfl) qR <| BP.skip <| BP.skip <| BP.one rfl rfl rfl <| BP.one rfl rfl rfl <| BP.doneE (out := []) rfl) ?_
                refine L.known (t := 91) (u := .agg (letV 4 fr 0 0 (nmF s) 0 [] pa pn pc ha hn_ hc).toArray) rfl rfl ?_
                refine A.took ?_
                refine A.branch (is := [13]) (by kernel_rfl) (by decide) (Each.cons rfl ?_ <| Each.nil) 
                refine L.alloc rfl ze38 (fun b18 => ?_)
                refine A.back rfl qD qF ?_
                refine A.branch (is := [14]) (by kernel_rfl) (by decide) (Each.cons rfl ?_ <| Each.nil) 
                refine L.storeA ag38 rfl rfl qL qO qU qW ?_
                refine A.backT rfl qD ?_
                refine A.done (by kernel_rfl) ?_
                refine T.thenN ?_
                exact T.toJoin ⟨b18, pa, ha, pn, pc, hn_, hc, fewF z.2.1.2.2.2, fewF z.2.2.2.2.2, ⟨by omega, by omega, fewF_in⟩, rfl, rfl, rfl⟩ (.cons (t := 18) rfl <| SubK.nil _) (.cons (t := 3) rfl <| .cons (t := 9) rfl <| .cons (t := 10) rfl <| .cons (t := 11) rfl <| .cons (t := 12) rfl <| .cons (t := 13) rfl <| .cons (t := 14) rfl <| SubK.nil _) qD qD qF
              · skip
                refine L.alloc rfl ze38 (fun b18 => ?_)
                refine A.back rfl qD qF ?_
                refine A.branch (is := [11]) (by kernel_rfl) (by decide) (Each.cons rfl ?_ <| Each.nil) 
                refine L.call rfl (evs.cons rfl <| evs.nil) qD qS (few_spec (xs := z.2.2.2.2.2)) ?_
                rintro _ _ _ ⟨ha, hn_, hc, rfl, hh2, hh2l, rfl, rfl⟩
                refine L.norm qA qA ?_
                refine A.back rfl qD qF ?_
                refine A.takeP (i := 12) rfl rfl rfl rfl (by kernel_rfl) (by kernel_rfl) (by kernel_rfl) rfl qD ?_
                refine L.build rfl bu38 (BP.one rfl rfl rfl <| BP.one rfl rfl rfl <| BP.skip <| BP.skip <| BP.agg rfl rfl (by first | with_reducible assumption | (simp; done) | (simp only [List.length_map]; with_reducible assumption) | (simp [*]; done) | rfl) (Nat.le_of_ble_eq_true rfl) qR <| BP.skip <| BP.skip <| BP.one rfl rfl rfl <| BP.one rfl rfl rfl <| BP.doneE (out := []) rfl) ?_
                refine L.known (t := 91) (u := .agg (letV 4 fr 0 0 (nmF s) 0 [] pa pn pc ha hn_ hc).toArray) rfl rfl ?_
                refine A.took ?_
                refine A.branch (is := [14]) (by kernel_rfl) (by decide) (Each.cons rfl ?_ <| Each.nil) 
                refine L.storeA ag38 rfl rfl qL qO qU qW ?_
                refine A.backT rfl qD ?_
                refine A.done (by kernel_rfl) ?_
                refine T.thenN ?_
                exact T.toJoin ⟨b18, pa, ha, pn, pc, hn_, hc, fewF z.2.1.2.2.2, fewF z.2.2.2.2.2, ⟨by omega, by omega, fewF_in⟩, rfl, rfl, rfl⟩ (.cons (t := 18) rfl <| SubK.nil _) (.cons (t := 3) rfl <| .cons (t := 9) rfl <| .cons (t := 10) rfl <| .cons (t := 11) rfl <| .cons (t := 12) rfl <| .cons (t := 13) rfl <| .cons (t := 14) rfl <| SubK.nil _) qD qD qF
            · skip
              refine L.alloc rfl ze38 (fun b18 => ?_)
              refine A.back rfl qD qF ?_
              refine A.branch (is := [8]) (by kernel_rfl) (by decide) (Each.cons rfl ?_ <| Each.nil) 
              refine L.call rfl (evs.cons rfl <| evs.nil) qD qS (few_spec (xs := z.2.1.2.2.2)) ?_
              rintro _ _ _ ⟨pa, pn, pc, rfl, hp2, hp2l, rfl, rfl⟩
              refine L.norm qA qA ?_
              refine A.back rfl qD qF ?_
              refine A.branch (is := [11]) (by kernel_rfl) (by decide) (Each.cons rfl ?_ <| Each.nil) 
              refine L.call rfl (evs.cons rfl <| evs.nil) qD qS (few_spec (xs := z.2.2.2.2.2)) ?_
              rintro _ _ _ ⟨ha, hn_, hc, rfl, hh2, hh2l, rfl, rfl⟩
              refine L.norm qA qA ?_
              refine A.back rfl qD qF ?_
              refine A.takeP (i := 12) rfl rfl rfl rfl (by kernel_rfl) (by kernel_rfl) (by kernel_rfl) rfl qD ?_
              refine L.build rfl bu38 (BP.one rfl rfl rfl <| BP.one rfl rfl rfl <| BP.skip <| BP.skip <| BP.agg rfl rfl (by first | with_reducible assumption | (simp; done) | (simp only [List.length_map]; with_reducible assumption) | (simp [*]; done) | rfl) (Nat.le_of_ble_eq_true rfl) qR <| BP.skip <| BP.skip <| BP.one rfl rfl rfl <| BP.one rfl rfl rfl <| BP.doneE (out := []) rfl) ?_
              refine L.known (t := 91) (u := .agg (letV 4 fr 0 0 (nmF s) 0 [] pa pn pc ha hn_ hc).toArray) rfl rfl ?_
              refine A.took ?_
              refine A.branch (is := [14]) (by kernel_rfl) (by decide) (Each.cons rfl ?_ <| Each.nil) 
              refine L.storeA ag38 rfl rfl qL qO qU qW ?_
              refine A.backT rfl qD ?_
              refine A.done (by kernel_rfl) ?_
              refine T.thenN ?_
              exact T.toJoin ⟨b18, pa, ha, pn, pc, hn_, hc, fewF z.2.1.2.2.2, fewF z.2.2.2.2.2, ⟨by omega, by omega, fewF_in⟩, rfl, rfl, rfl⟩ (.cons (t := 18) rfl <| SubK.nil _) (.cons (t := 3) rfl <| .cons (t := 9) rfl <| .cons (t := 10) rfl <| .cons (t := 11) rfl <| .cons (t := 12) rfl <| .cons (t := 13) rfl <| .cons (t := 14) rfl <| SubK.nil _) qD qD qF
          rintro _ _ _ ⟨b18, pa, ha, pn, pc, hn_, hc, ps, hs, ⟨hpn8, hhn8, hhs⟩, rfl, rfl, rfl⟩
          refine T.norm3 qA qA qA ?_
          refine T.thenN ?_
          refine T.seq ?_
          refine T.seq ?_
          refine T.region ?_
          first | refine L.field0 rfl fo50_3 rfl ?_ | refine L.field rfl fo50_3 rfl ?_
          refine L.load rfl sc4 rfl qC ?_
          refine L.nil ?_
          refine T.thenN ?_
          refine T.cutC (fun K' D' M' => ∃ (id : List UInt8), (id.length = 32) ∧ K' = [] ∧ D' = [] ∧ M' = [cl b18 38 (letV 4 fr 0 0 id 0 [] pa pn pc ha hn_ hc)]) (M0 := [cl b18 38 (letV 4 fr 0 0 (nmF s) 0 [] pa pn pc ha hn_ hc)]) (.cons (t := 3) rfl <| .cons (t := 9) rfl <| .cons (t := 10) rfl <| .cons (t := 11) rfl <| .cons (t := 12) rfl <| .cons (t := 13) rfl <| .cons (t := 18) rfl <| SubK.nil _) qS ?_ ?_
          · skip
            refine T.cond rfl (fun h93 => ?_) (fun h93 => ?_)
            · try simp only [decide_eq_true_eq, decide_eq_false_iff_not, Bool.not_eq_true', Bool.not_eq_false', Bool.and_eq_true, Bool.or_eq_true] at h93
              obtain ⟨g0, gt, hgg, hgt⟩ := cons_of hnl
              refine T.eqv qP (show cl b18 38 (letV 4 fr 0 0 (nmF s) 0 [] pa pn pc ha hn_ hc) = cl b18 38 (.int .i64 4 :: .int .i64 fr :: .int .i64 0 :: .int .i64 0 :: Y g0 :: (gt.map Y ++ [.int .i64 0, S [], .slice pa pn pc, .slice ha hn_ hc])) from by rw [hgg]; rfl) ?_
              refine T.region ?_
              first | refine L.field0 rfl fo38_4 rfl ?_ | refine L.field rfl fo38_4 rfl ?_
              refine L.idxA (i := 0) rfl Try.underlying27 sz5 rfl rfl (by first | rfl | omega) (by omega) ?_
              refine L.known (t := 95) (u := .pointer (some ⟨b18, 4, none⟩)) rfl rfl ?_
              refine L.load rfl sc5 rfl qC ?_
              refine L.xorI rfl rfl rfl ?_
              refine L.known (t := 97) (u := Y (g0 ^^^ 1)) rfl (congrArg (Value.int .u8) (xorY_s g0 1)) ?_
              first | refine L.field0 rfl fo38_4 rfl ?_ | refine L.field rfl fo38_4 rfl ?_
              refine L.idxA (i := 0) rfl Try.underlying27 sz5 rfl rfl (by first | rfl | omega) (by omega) ?_
              refine L.known (t := 99) (u := .pointer (some ⟨b18, 4, none⟩)) rfl rfl ?_
              refine L.store sc5 rfl rfl rfl qU qE ?_
              refine L.nil ?_
              refine T.eqv qP (show cl b18 38 (.int .i64 4 :: .int .i64 fr :: .int .i64 0 :: .int .i64 0 :: Y (g0 ^^^ 1) :: (gt.map Y ++ [.int .i64 0, S [], .slice pa pn pc, .slice ha hn_ hc])) = cl b18 38 (letV 4 fr 0 0 ((g0 ^^^ 1) :: gt) 0 [] pa pn pc ha hn_ hc) from rfl) ?_
              refine T.thenN ?_
              exact T.toJoin ⟨(g0 ^^^ 1) :: gt, (by simp [hgt]), rfl, rfl, rfl⟩ (SubK.nil _) (.cons (t := 3) rfl <| .cons (t := 9) rfl <| .cons (t := 10) rfl <| .cons (t := 11) rfl <| .cons (t := 12) rfl <| .cons (t := 13) rfl <| .cons (t := 18) rfl <| SubK.nil _) qD qD qF
            · try simp only [decide_eq_true_eq, decide_eq_false_iff_not, Bool.not_eq_true', Bool.not_eq_false', Bool.and_eq_true, Bool.or_eq_true] at h93
              refine T.skip ?_
              refine T.thenN ?_
              exact T.toJoin ⟨nmF s, hnl, rfl, rfl, rfl⟩ (SubK.nil _) (.cons (t := 3) rfl <| .cons (t := 9) rfl <| .cons (t := 10) rfl <| .cons (t := 11) rfl <| .cons (t := 12) rfl <| .cons (t := 13) rfl <| .cons (t := 18) rfl <| SubK.nil _) qD qD qF
          rintro _ _ _ ⟨id, hid, rfl, rfl, rfl⟩
          refine T.norm3 qA qA qA ?_
          refine T.thenN ?_
          refine T.seq ?_
          have hll : (letV 4 fr 0 0 id 0 [] pa pn pc ha hn_ hc).length = 40 := by simp [hid]
          refine T.region ?_
          refine L.move rfl rfl ?_
          refine L.loadA rfl ag38 rfl qN ?_
          refine L.call rfl (evs.cons rfl <| evs.cons rfl <| evs.nil) qD qS (hear_spec (g := nmF s) (o := a1) (m1 := sm1) (m2 := sm2) (lo := lo) (lh := lh) (kind := 4) (fr := fr) (to_ := 0) (sq := 0) (what := 0) (id := id) (tx := []) (pa := pa) (pl := pn) (pc := pc) (ps := ps) (ha := ha) (hl := hn_) (hc := hc) (hs := hs) hnl hid (by omega) (by omega)) ?_
          rintro _ _ _ ⟨rfl, rfl, rfl⟩
          refine L.norm qA qA ?_
          refine L.assign rfl rfl ?_
          refine L.nil ?_
          refine T.thenN ?_
          refine T.seq ?_
          refine T.cutC (fun K' D' M' => ∃ (b20 : Nat) (rq rr : Option Addr × Nat), K' = [(20, .pointer (some ⟨b20, 0, none⟩)), (21, .bool (decide (RAns (nmF s) id st fr)))] ∧ D' = [rsl 1 rq.1 64 rq.2 ((if RAns (nmF s) id st fr then rmeetF a1 (st.set fr.toNat 2) ps else st).map e3), rsl 1 rr.1 64 rr.2 ((if RAns (nmF s) id st fr then rhasF a1 hv hs else hv).map e4)] ∧ M' = [cl b20 46 (xV (nmF s) a1 (rq, p.2.1, rr)), cl b11 46 (xV (nmF s) a1 p), cl b18 38 (letV 4 fr 0 0 id 0 [] pa pn pc ha hn_ hc)]) (M0 := [cl b11 46 (xV (nmF s) a1 p), cl b18 38 (letV 4 fr 0 0 id 0 [] pa pn pc ha hn_ hc)]) (.cons (t := 3) rfl <| .cons (t := 9) rfl <| .cons (t := 10) rfl <| .cons (t := 11) rfl <| .cons (t := 12) rfl <| .cons (t := 13) rfl <| .cons (t := 19) rfl <| SubK.nil _) qS ?_ ?_
          · skip
            refine T.regionA (clsL [0, 1, 0, 1, 0, 0, 1, 0, 1, 0, 0, 1, 1, 1, 0, 2, 1]) (by kernel_rfl) ?_
            refine A.takeP (i := 1) rfl rfl rfl rfl (by kernel_rfl) (by kernel_rfl) (by kernel_rfl) rfl qD ?_
            first | refine L.field0 rfl fo38_1 rfl ?_ | refine L.field rfl fo38_1 rfl ?_
            refine A.took ?_
            refine A.takeP (i := 3) rfl rfl rfl rfl (by kernel_rfl) (by kernel_rfl) (by kernel_rfl) rfl qD ?_
            first | refine L.field0 rfl fo38_4 rfl ?_ | refine L.field rfl fo38_4 rfl ?_
            refine A.took ?_
            refine A.takeP (i := 6) rfl rfl rfl rfl (by kernel_rfl) (by kernel_rfl) (by kernel_rfl) rfl qD ?_
            first | refine L.field0 rfl fo38_7 rfl ?_ | refine L.field rfl fo38_7 rfl ?_
            refine A.took ?_
            refine A.takeP (i := 8) rfl rfl rfl rfl (by kernel_rfl) (by kernel_rfl) (by kernel_rfl) rfl qD ?_
            first | refine L.field0 rfl fo38_8 rfl ?_ | refine L.field rfl fo38_8 rfl ?_
            refine A.took ?_
            refine A.take (i := 0) rfl rfl rfl rfl (by kernel_rfl) (by kernel_rfl) (by kernel_rfl) (by kernel_rfl) rfl qD qF ?_
            refine L.loadA rfl ag46 rfl qN ?_
            refine A.took ?_
            refine A.take (i := 2) rfl rfl rfl rfl (by kernel_rfl) (by kernel_rfl) (by kernel_rfl) (by kernel_rfl) rfl qD qF ?_
            refine L.load rfl sc3 rfl qC ?_
            refine A.took ?_
            refine A.take (i := 4) rfl rfl rfl rfl (by kernel_rfl) (by kernel_rfl) (by kernel_rfl) (by kernel_rfl) rfl qD qF ?_
            refine L.loadA rfl ag27 rfl qN ?_
            refine A.took ?_
            refine A.take (i := 7) rfl rfl rfl rfl (by kernel_rfl) (by kernel_rfl) (by kernel_rfl) (by kernel_rfl) rfl qD qF ?_
            refine L.load rfl sc22 rfl qC ?_
            refine A.took ?_
            refine A.take (i := 9) rfl rfl rfl rfl (by kernel_rfl) (by kernel_rfl) (by kernel_rfl) (by kernel_rfl) rfl qD qF ?_
            refine L.load rfl sc22 rfl qC ?_
            refine A.took ?_
            refine A.branch (is := [5, 14]) (by kernel_rfl) (by decide) (Each.cons rfl ?_ <| Each.cons rfl ?_ <| Each.nil) 
            · skip
              refine L.call rfl (evs.cons rfl <| evs.nil) qD qS (obytes_spec (l := id) hid) ?_
              rintro _ _ _ ⟨rfl, rfl, rfl⟩
              refine L.norm qA qA ?_
              refine A.back rfl qD qF ?_
              refine A.branch (is := [10, 14]) (by kernel_rfl) (by decide) (Each.cons rfl ?_ <| Each.cons rfl ?_ <| Each.nil) 
              · skip
                refine L.call rfl (evs.cons rfl <| evs.cons rfl <| evs.cons rfl <| evs.cons rfl <| evs.cons rfl <| evs.cons rfl <| evs.nil) qD qS (rhear_spec (g := nmF s) (o := a1) (p := p) (st := st) (hv := hv) (fr := fr) (id := id) (ps := ps) (hs := hs) (by omega) (by omega)) ?_
                rintro _ _ _ ⟨rq, rr, rfl, rfl, rfl⟩
                refine L.norm qA qA ?_
                refine A.back rfl qD qF ?_
                refine A.takeP (i := 11) rfl rfl rfl rfl (by kernel_rfl) (by kernel_rfl) (by kernel_rfl) rfl qD ?_
                refine L.move rfl rfl ?_
                refine A.took ?_
                refine A.takeP (i := 12) rfl rfl rfl rfl (by kernel_rfl) (by kernel_rfl) (by kernel_rfl) rfl qD ?_
                refine L.extract rfl rfl rfl ?_
                refine A.took ?_
                refine A.takeP (i := 13) rfl rfl rfl rfl (by kernel_rfl) (by kernel_rfl) (by kernel_rfl) rfl qD ?_
                refine L.extract rfl rfl rfl ?_
                refine A.took ?_
                refine A.branch (is := [14]) (by kernel_rfl) (by decide) (Each.cons rfl ?_ <| Each.nil) 
                refine L.alloc rfl ze46 (fun b20 => ?_)
                refine A.back rfl qD qF ?_
                refine A.branch (is := [15]) (by kernel_rfl) (by decide) (Each.cons rfl ?_ <| Each.nil) 
                refine L.storeA ag46 rfl rfl qL qO qU qW ?_
                refine A.backT rfl qD ?_
                refine A.takeP (i := 16) rfl rfl rfl rfl (by kernel_rfl) (by kernel_rfl) (by kernel_rfl) rfl qD ?_
                refine L.assign rfl rfl ?_
                refine A.took ?_
                refine A.done (by kernel_rfl) ?_
                refine T.thenN ?_
                exact T.toJoin ⟨_, rq, rr, rfl, rfl, rfl⟩ (.cons (t := 20) rfl <| .cons (t := 21) rfl <| SubK.nil _) (.cons (t := 3) rfl <| .cons (t := 9) rfl <| .cons (t := 10) rfl <| .cons (t := 11) rfl <| .cons (t := 12) rfl <| .cons (t := 13) rfl <| .cons (t := 19) rfl <| SubK.nil _) qD qD qF
              · skip
                refine L.alloc rfl ze46 (fun b20 => ?_)
                refine A.back rfl qD qF ?_
                refine A.branch (is := [10]) (by kernel_rfl) (by decide) (Each.cons rfl ?_ <| Each.nil) 
                refine L.call rfl (evs.cons rfl <| evs.cons rfl <| evs.cons rfl <| evs.cons rfl <| evs.cons rfl <| evs.cons rfl <| evs.nil) qD qS (rhear_spec (g := nmF s) (o := a1) (p := p) (st := st) (hv := hv) (fr := fr) (id := id) (ps := ps) (hs := hs) (by omega) (by omega)) ?_
                rintro _ _ _ ⟨rq, rr, rfl, rfl, rfl⟩
                refine L.norm qA qA ?_
                refine A.back rfl qD qF ?_
                refine A.takeP (i := 11) rfl rfl rfl rfl (by kernel_rfl) (by kernel_rfl) (by kernel_rfl) rfl qD ?_
                refine L.move rfl rfl ?_
                refine A.took ?_
                refine A.takeP (i := 12) rfl rfl rfl rfl (by kernel_rfl) (by kernel_rfl) (by kernel_rfl) rfl qD ?_
                refine L.extract rfl rfl rfl ?_
                refine A.took ?_
                refine A.takeP (i := 13) rfl rfl rfl rfl (by kernel_rfl) (by kernel_rfl) (by kernel_rfl) rfl qD ?_
                refine L.extract rfl rfl rfl ?_
                refine A.took ?_
                refine A.branch (is := [15]) (by kernel_rfl) (by decide) (Each.cons rfl ?_ <| Each.nil) 
                refine L.storeA ag46 rfl rfl qL qO qU qW ?_
                refine A.backT rfl qD ?_
                refine A.takeP (i := 16) rfl rfl rfl rfl (by kernel_rfl) (by kernel_rfl) (by kernel_rfl) rfl qD ?_
                refine L.assign rfl rfl ?_
                refine A.took ?_
                refine A.done (by kernel_rfl) ?_
                refine T.thenN ?_
                exact T.toJoin ⟨_, rq, rr, rfl, rfl, rfl⟩ (.cons (t := 20) rfl <| .cons (t := 21) rfl <| SubK.nil _) (.cons (t := 3) rfl <| .cons (t := 9) rfl <| .cons (t := 10) rfl <| .cons (t := 11) rfl <| .cons (t := 12) rfl <| .cons (t := 13) rfl <| .cons (t := 19) rfl <| SubK.nil _) qD qD qF
            · skip
              refine L.alloc rfl ze46 (fun b20 => ?_)
              refine A.back rfl qD qF ?_
              refine A.branch (is := [5]) (by kernel_rfl) (by decide) (Each.cons rfl ?_ <| Each.nil) 
              refine L.call rfl (evs.cons rfl <| evs.nil) qD qS (obytes_spec (l := id) hid) ?_
              rintro _ _ _ ⟨rfl, rfl, rfl⟩
              refine L.norm qA qA ?_
              refine A.back rfl qD qF ?_
              refine A.branch (is := [10]) (by kernel_rfl) (by decide) (Each.cons rfl ?_ <| Each.nil) 
              refine L.call rfl (evs.cons rfl <| evs.cons rfl <| evs.cons rfl <| evs.cons rfl <| evs.cons rfl <| evs.cons rfl <| evs.nil) qD qS (rhear_spec (g := nmF s) (o := a1) (p := p) (st := st) (hv := hv) (fr := fr) (id := id) (ps := ps) (hs := hs) (by omega) (by omega)) ?_
              rintro _ _ _ ⟨rq, rr, rfl, rfl, rfl⟩
              refine L.norm qA qA ?_
              refine A.back rfl qD qF ?_
              refine A.takeP (i := 11) rfl rfl rfl rfl (by kernel_rfl) (by kernel_rfl) (by kernel_rfl) rfl qD ?_
              refine L.move rfl rfl ?_
              refine A.took ?_
              refine A.takeP (i := 12) rfl rfl rfl rfl (by kernel_rfl) (by kernel_rfl) (by kernel_rfl) rfl qD ?_
              refine L.extract rfl rfl rfl ?_
              refine A.took ?_
              refine A.takeP (i := 13) rfl rfl rfl rfl (by kernel_rfl) (by kernel_rfl) (by kernel_rfl) rfl qD ?_
              refine L.extract rfl rfl rfl ?_
              refine A.took ?_
              refine A.branch (is := [15]) (by kernel_rfl) (by decide) (Each.cons rfl ?_ <| Each.nil) 
              refine L.storeA ag46 rfl rfl qL qO qU qW ?_
              refine A.backT rfl qD ?_
              refine A.takeP (i := 16) rfl rfl rfl rfl (by kernel_rfl) (by kernel_rfl) (by kernel_rfl) rfl qD ?_
              refine L.assign rfl rfl ?_
              refine A.took ?_
              refine A.done (by kernel_rfl) ?_
              refine T.thenN ?_
              exact T.toJoin ⟨_, rq, rr, rfl, rfl, rfl⟩ (.cons (t := 20) rfl <| .cons (t := 21) rfl <| SubK.nil _) (.cons (t := 3) rfl <| .cons (t := 9) rfl <| .cons (t := 10) rfl <| .cons (t := 11) rfl <| .cons (t := 12) rfl <| .cons (t := 13) rfl <| .cons (t := 19) rfl <| SubK.nil _) qD qD qF
          rintro _ _ _ ⟨b20, rq, rr, rfl, rfl, rfl⟩
          refine T.norm3 qA qA qA ?_
          have hR2 := hR.hear (g := nmF s) (id := id) (ps := ps) hnow0.1 hfr hhs
          refine T.thenN ?_
          refine T.seq ?_
          refine T.region ?_
          refine L.loadA rfl ag46 rfl qN ?_
          refine L.storeA ag46 rfl rfl qL qO qU qW ?_
          refine L.nil ?_
          refine T.thenN ?_
          refine T.seq ?_
          have hne : (decide (Answ (nmF s) lo 4 fr id) != decide (RAns (nmF s) id st fr)) = false := hR.ansB hfr
          refine T.region ?_
          refine L.move rfl rfl ?_
          refine L.move rfl rfl ?_
          refine L.neqB Try.underlying4 rfl rfl rfl ?_
          refine L.nil ?_
          refine T.thenN ?_
          refine T.condF rfl hne ?_
          refine T.skip ?_
          refine T.blkN ?_
          refine T.thenN ?_
          exact T.toJoin ⟨now, if Answ (nmF s) lo 4 fr id then meetF a1 (put lo fr (2, inO lo fr)) ps else lo, if Answ (nmF s) lo 4 fr id then hearF a1 lh hs else lh, (rq, p.2.1, rr), if RAns (nmF s) id st fr then rmeetF a1 (st.set fr.toNat 2) ps else st, si, if RAns (nmF s) id st fr then rhasF a1 hv hs else hv, ⟨by omega, hR2⟩, rfl, rfl, rfl⟩ (.cons (t := 12) rfl <| SubK.nil _) (.cons (t := 3) rfl <| .cons (t := 9) rfl <| .cons (t := 10) rfl <| .cons (t := 11) rfl <| .cons (t := 13) rfl <| SubK.nil _) qD qD qF
        · try simp only [decide_eq_true_eq, decide_eq_false_iff_not, Bool.not_eq_true', Bool.not_eq_false', Bool.and_eq_true, Bool.or_eq_true] at h77
          refine T.seq ?_
          refine T.region ?_
          refine L.eqI rfl rfl rfl ?_
          refine L.assign rfl rfl ?_
          refine L.nil ?_
          refine T.thenN ?_
          refine T.cond rfl (fun h121 => ?_) (fun h121 => ?_)
          · try simp only [decide_eq_true_eq, decide_eq_false_iff_not, Bool.not_eq_true', Bool.not_eq_false', Bool.and_eq_true, Bool.or_eq_true] at h121
            refine T.seq ?_
            refine T.region ?_
            refine L.move rfl rfl ?_
            first | refine L.field0 rfl fo50_5 rfl ?_ | refine L.field rfl fo50_5 rfl ?_
            refine L.load rfl sc22 rfl qC ?_
            refine L.call rfl (evs.cons rfl <| evs.cons rfl <| evs.nil) qD qS (has_spec (g := nmF s) (o := a1) (m1 := sm1) (m2 := sm2) (lh := lh) (ns := z.2.2.2.2.2) hnl hzb) ?_
            rintro _ _ _ ⟨rfl, rfl, rfl⟩
            refine L.norm qA qA ?_
            refine L.nil ?_
            refine T.thenN ?_
            refine T.region ?_
            refine L.loadA rfl ag46 rfl qN ?_
            first | refine L.field0 rfl fo50_5 rfl ?_ | refine L.field rfl fo50_5 rfl ?_
            refine L.load rfl sc22 rfl qC ?_
            refine L.call rfl (evs.cons rfl <| evs.cons rfl <| evs.nil) qD qS (rhas_spec (g := nmF s) (o := a1) (p := p) (hv := hv) (ns := z.2.2.2.2.2) hzb) ?_
            rintro _ _ _ ⟨ka, kc, rfl, rfl, rfl⟩
            refine L.norm qA qA ?_
            refine L.storeA ag46 rfl rfl qL qO qU qW ?_
            refine L.nil ?_
            refine T.blkN ?_
            refine T.thenN ?_
            exact T.toJoin ⟨now, lo, hasF a1 lh z.2.2.2.2.2, (p.1, p.2.1, (ka, kc)), st, si, rhasF a1 hv z.2.2.2.2.2, ⟨by omega, hR.has⟩, rfl, rfl, rfl⟩ (.cons (t := 12) rfl <| SubK.nil _) (.cons (t := 3) rfl <| .cons (t := 9) rfl <| .cons (t := 10) rfl <| .cons (t := 11) rfl <| .cons (t := 13) rfl <| SubK.nil _) qD qD qF
          · try simp only [decide_eq_true_eq, decide_eq_false_iff_not, Bool.not_eq_true', Bool.not_eq_false', Bool.and_eq_true, Bool.or_eq_true] at h121
            refine T.skip ?_
            refine T.blkN ?_
            refine T.thenN ?_
            exact T.toJoin ⟨now, lo, lh, p, st, si, hv, ⟨by omega, hR⟩, rfl, rfl, rfl⟩ (.cons (t := 12) rfl <| SubK.nil _) (.cons (t := 3) rfl <| .cons (t := 9) rfl <| .cons (t := 10) rfl <| .cons (t := 11) rfl <| .cons (t := 13) rfl <| SubK.nil _) qD qD qF
    rintro _ _ _ ⟨nowb, lo, lh, p, st, si, hv, ⟨hnwb, hR⟩, rfl, rfl, rfl⟩
    refine T.norm3 qA qA qA ?_
    refine T.thenN ?_
    refine T.seq ?_
    refine T.mpNodup (kenc := iK) (venc := oneV) (b := sm1) qM (fun hnd => ?_)
    refine T.mpNodup (kenc := iK) (venc := iK) (b := sm2) qM (fun hndh => ?_)
    refine T.regionA (clsL [1, 0, 0, 2, 2, 1, 1, 1, 2, 2, 2, 2, 1, 2, 1, 1, 2, 2, 2, 1, 2]) (by kernel_rfl) ?_
    refine A.takeP (i := 0) rfl rfl rfl rfl (by kernel_rfl) (by kernel_rfl) (by kernel_rfl) rfl qD ?_
    refine L.move rfl rfl ?_
    refine A.took ?_
    refine A.take (i := 2) rfl rfl rfl rfl (by kernel_rfl) (by kernel_rfl) (by kernel_rfl) (by kernel_rfl) rfl qD qF ?_
    refine L.loadA rfl ag46 rfl qN ?_
    refine A.took ?_
    refine A.branch (is := [1]) (by kernel_rfl) (by decide) (Each.cons rfl ?_ <| Each.nil) 
    refine L.call rfl (evs.cons rfl <| evs.nil) qD qS (holders_spec (g := nmF s) (o := a1) (m1 := sm1) (m2 := sm2) (lh := lh) hnl (by have := hR.lenh hndh; omega)) ?_
    rintro _ _ _ ⟨wa, wn, wc, ws, rfl, hwp, hwn, rfl, rfl⟩
    refine L.norm qA qA ?_
    rw [hR.holders hndh hwp]
    refine L.ownRsl (rows := (haveR hv 64).map e3) qP ?_
    have hw1 : (haveR hv 64).length = wn := by rw [← hR.holders hndh hwp, List.length_mergeSort]; exact hwn
    have hw2 := @haveR_len hv 64
    refine A.back rfl qD qF ?_
    refine A.branch (is := [3]) (by kernel_rfl) (by decide) (Each.cons rfl ?_ <| Each.nil) 
    refine L.call rfl (evs.cons rfl <| evs.nil) qD qS (rhold_spec (g := nmF s) (o := a1) (p := p) (hv := hv)) ?_
    rintro _ _ _ ⟨va, vn, vc, rfl, hvn, rfl, rfl⟩
    refine L.norm qA qA ?_
    refine L.ownRsl (a := va) (rows := (haveR hv 64).map e3) qP ?_
    refine A.backT rfl qD ?_
    refine A.branch (is := [4]) (by kernel_rfl) (by decide) (Each.cons rfl ?_ <| Each.nil) 
    refine L.callF rfl (evs.cons rfl <| evs.cons rfl <| evs.nil) qD qS (same_spec (xs := haveR hv 64) (ys := haveR hv 64) (by omega) (by omega)) (by rintro u D1 M1 ⟨rfl, rfl, rfl⟩; exact ⟨rfl, _, qA, qF⟩) ?_
    refine A.backT rfl qD ?_
    refine A.takeP (i := 5) rfl rfl rfl rfl (by kernel_rfl) (by kernel_rfl) (by kernel_rfl) rfl qD ?_
    refine L.notB rfl rfl ?_
    refine A.took ?_
    refine A.takeP (i := 6) rfl rfl rfl rfl (by kernel_rfl) (by kernel_rfl) (by kernel_rfl) rfl qD ?_
    refine L.move rfl rfl ?_
    refine A.took ?_
    refine A.known (t := 137) rfl (show _ = Value.bool false from congrArg Value.bool (by simp)) ?_
    refine A.takeP (i := 7) rfl rfl rfl rfl (by kernel_rfl) (by kernel_rfl) (by kernel_rfl) rfl qD ?_
    refine L.guardT (dj := 137) rfl rfl rfl ?_
    refine L.move rfl rfl ?_
    refine A.took ?_
    refine A.branch (is := [8, 9]) (by kernel_rfl) (by decide) (Each.cons rfl ?_ <| Each.cons rfl ?_ <| Each.nil) 
    · skip
      refine L.guardT (dj := 137) rfl rfl rfl ?_
      refine L.call rfl (evs.cons rfl <| evs.nil) qD qS (nearest_spec (g := nmF s) (o := a1) (m1 := sm1) (m2 := sm2) (lo := lo) hnl (hR.len hnd)) ?_
      rintro _ _ _ ⟨na, nn, nc, ys2, rfl, hS2, hnn, rfl, rfl⟩
      refine L.norm qA qA ?_
      rw [hR.near hnl hnd hS2] at hnn ⊢
      refine L.ownRsl (a := na) (rows := (tellR st (srtG (nmF s) (liveR st 64))).map e3) qP ?_
      have hn6 : nn ≤ 6 := by rw [← hnn]; unfold tellR; rw [List.length_take]; omega
      refine A.backT rfl qD ?_
      refine A.branch (is := [9]) (by kernel_rfl) (by decide) (Each.cons rfl ?_ <| Each.nil) 
      refine L.guardT (dj := 137) rfl rfl rfl ?_
      refine L.loadA rfl ag46 rfl qN ?_
      refine A.backT rfl qD ?_
      refine A.branch (is := [10]) (by kernel_rfl) (by decide) (Each.cons rfl ?_ <| Each.nil) 
      refine L.guardT (dj := 137) rfl rfl rfl ?_
      refine L.call rfl (evs.cons rfl <| evs.nil) qD qS (rtold_spec (g := nmF s) (o := a1) (p := p) (st := st) hnl) ?_
      rintro _ _ _ ⟨ta, tn, tc, rfl, htn, rfl, rfl⟩
      refine L.norm qA qA ?_
      refine L.ownRsl (a := ta) (rows := (tellR st (srtG (nmF s) (liveR st 64))).map e3) qP ?_
      refine A.backT rfl qD ?_
      refine A.branch (is := [11]) (by kernel_rfl) (by decide) (Each.cons rfl ?_ <| Each.nil) 
      refine L.guardT (dj := 137) rfl rfl rfl ?_
      refine L.callF rfl (evs.cons rfl <| evs.cons rfl <| evs.nil) qD qS (same_spec (xs := tellR st (srtG (nmF s) (liveR st 64))) (ys := tellR st (srtG (nmF s) (liveR st 64))) (by omega) (by omega)) (by rintro u D1 M1 ⟨rfl, rfl, rfl⟩; exact ⟨rfl, _, qA, qF⟩) ?_
      refine A.backT rfl qD ?_
      refine A.takeP (i := 12) rfl rfl rfl rfl (by kernel_rfl) (by kernel_rfl) (by kernel_rfl) rfl qD ?_
      refine L.guardT (dj := 137) rfl rfl rfl ?_
      refine L.notB rfl rfl ?_
      refine A.took ?_
      refine A.branch (is := [13]) (by kernel_rfl) (by decide) (Each.cons rfl ?_ <| Each.nil) 
      refine L.pickF rfl rfl rfl ?_
      refine A.backT rfl qD ?_
      refine A.takeP (i := 14) rfl rfl rfl rfl (by kernel_rfl) (by kernel_rfl) (by kernel_rfl) rfl qD ?_
      refine L.move rfl rfl ?_
      refine A.took ?_
      refine A.known (t := 145) rfl (show _ = Value.bool false from congrArg Value.bool (by simp)) ?_
      refine A.takeP (i := 15) rfl rfl rfl rfl (by kernel_rfl) (by kernel_rfl) (by kernel_rfl) rfl qD ?_
      refine L.guardT (dj := 145) rfl rfl rfl ?_
      refine L.move rfl rfl ?_
      refine A.took ?_
      refine A.branch (is := [16, 17]) (by kernel_rfl) (by decide) (Each.cons rfl ?_ <| Each.cons rfl ?_ <| Each.nil) 
      · skip
        refine L.guardT (dj := 145) rfl rfl rfl ?_
        refine L.call rfl (evs.cons rfl <| evs.nil) qD qS (over_spec (g := nmF s) (o := a1) (m1 := sm1) (m2 := sm2) (lo := lo) hnl (hR.len hnd)) ?_
        rintro _ _ _ ⟨ys3, rfl, hS3, rfl, rfl⟩
        refine L.norm qA qA ?_
        rw [← hR.over hnl hnd hS3]
        refine A.backT rfl qD ?_
        refine A.branch (is := [17]) (by kernel_rfl) (by decide) (Each.cons rfl ?_ <| Each.nil) 
        refine L.guardT (dj := 145) rfl rfl rfl ?_
        refine L.loadA rfl ag46 rfl qN ?_
        refine A.backT rfl qD ?_
        refine A.branch (is := [18]) (by kernel_rfl) (by decide) (Each.cons rfl ?_ <| Each.nil) 
        refine L.guardT (dj := 145) rfl rfl rfl ?_
        refine L.call rfl (evs.cons rfl <| evs.nil) qD qS (rover_spec (g := nmF s) (o := a1) (p := p) (st := st) hnl) ?_
        rintro _ _ _ ⟨rfl, rfl, rfl⟩
        refine L.norm qA qA ?_
        refine A.backT rfl qD ?_
        refine A.takeP (i := 19) rfl rfl rfl rfl (by kernel_rfl) (by kernel_rfl) (by kernel_rfl) rfl qD ?_
        refine L.guardT (dj := 145) rfl rfl rfl ?_
        refine L.neqB Try.underlying4 rfl rfl rfl ?_
        refine A.took ?_
        refine A.branch (is := [20]) (by kernel_rfl) (by decide) (Each.cons rfl ?_ <| Each.nil) 
        refine L.pickF rfl rfl rfl ?_
        refine A.backT rfl qD ?_
        refine A.done (by kernel_rfl) ?_
        refine T.thenN ?_
        refine T.condF rfl (bne_self_eq_false _) ?_
        refine T.skip ?_
        refine T.blkN ?_
        refine T.thenN ?_
        refine T.region ?_
        refine L.move rfl rfl ?_
        refine L.addN rfl rfl rfl (by omega) ?_
        refine L.assign rfl rfl ?_
        refine L.nil ?_
        refine T.thenN ?_
        exact T.back ⟨i + 1, nowb, lo, lh, p, st, si, hv, ⟨by omega, by omega, hR⟩, rfl, rfl, rfl, rfl⟩ qI (.cons (t := 13) rfl <| .cons (t := 12) rfl <| SubK.nil _) (.cons (t := 3) rfl <| .cons (t := 9) rfl <| .cons (t := 10) rfl <| .cons (t := 11) rfl <| SubK.nil _) qD qD qF
      · skip
        refine L.guardT (dj := 145) rfl rfl rfl ?_
        refine L.loadA rfl ag46 rfl qN ?_
        refine A.backT rfl qD ?_
        refine A.branch (is := [16]) (by kernel_rfl) (by decide) (Each.cons rfl ?_ <| Each.nil) 
        refine L.guardT (dj := 145) rfl rfl rfl ?_
        refine L.call rfl (evs.cons rfl <| evs.nil) qD qS (over_spec (g := nmF s) (o := a1) (m1 := sm1) (m2 := sm2) (lo := lo) hnl (hR.len hnd)) ?_
        rintro _ _ _ ⟨ys3, rfl, hS3, rfl, rfl⟩
        refine L.norm qA qA ?_
        rw [← hR.over hnl hnd hS3]
        refine A.backT rfl qD ?_
        refine A.branch (is := [18]) (by kernel_rfl) (by decide) (Each.cons rfl ?_ <| Each.nil) 
        refine L.guardT (dj := 145) rfl rfl rfl ?_
        refine L.call rfl (evs.cons rfl <| evs.nil) qD qS (rover_spec (g := nmF s) (o := a1) (p := p) (st := st) hnl) ?_
        rintro _ _ _ ⟨rfl, rfl, rfl⟩
        refine L.norm qA qA ?_
        refine A.backT rfl qD ?_
        refine A.takeP (i := 19) rfl rfl rfl rfl (by kernel_rfl) (by kernel_rfl) (by kernel_rfl) rfl qD ?_
        refine L.guardT (dj := 145) rfl rfl rfl ?_
        refine L.neqB Try.underlying4 rfl rfl rfl ?_
        refine A.took ?_
        refine A.branch (is := [20]) (by kernel_rfl) (by decide) (Each.cons rfl ?_ <| Each.nil) 
        refine L.pickF rfl rfl rfl ?_
        refine A.backT rfl qD ?_
        refine A.done (by kernel_rfl) ?_
        refine T.thenN ?_
        refine T.condF rfl (bne_self_eq_false _) ?_
        refine T.skip ?_
        refine T.blkN ?_
        refine T.thenN ?_
        refine T.region ?_
        refine L.move rfl rfl ?_
        refine L.addN rfl rfl rfl (by omega) ?_
        refine L.assign rfl rfl ?_
        refine L.nil ?_
        refine T.thenN ?_
        exact T.back ⟨i + 1, nowb, lo, lh, p, st, si, hv, ⟨by omega, by omega, hR⟩, rfl, rfl, rfl, rfl⟩ qI (.cons (t := 13) rfl <| .cons (t := 12) rfl <| SubK.nil _) (.cons (t := 3) rfl <| .cons (t := 9) rfl <| .cons (t := 10) rfl <| .cons (t := 11) rfl <| SubK.nil _) qD qD qF
    · skip
      refine L.guardT (dj := 137) rfl rfl rfl ?_
      refine L.loadA rfl ag46 rfl qN ?_
      refine A.backT rfl qD ?_
      refine A.branch (is := [8]) (by kernel_rfl) (by decide) (Each.cons rfl ?_ <| Each.nil) 
      refine L.guardT (dj := 137) rfl rfl rfl ?_
      refine L.call rfl (evs.cons rfl <| evs.nil) qD qS (nearest_spec (g := nmF s) (o := a1) (m1 := sm1) (m2 := sm2) (lo := lo) hnl (hR.len hnd)) ?_
      rintro _ _ _ ⟨na, nn, nc, ys2, rfl, hS2, hnn, rfl, rfl⟩
      refine L.norm qA qA ?_
      rw [hR.near hnl hnd hS2] at hnn ⊢
      refine L.ownRsl (a := na) (rows := (tellR st (srtG (nmF s) (liveR st 64))).map e3) qP ?_
      have hn6 : nn ≤ 6 := by rw [← hnn]; unfold tellR; rw [List.length_take]; omega
      refine A.backT rfl qD ?_
      refine A.branch (is := [10]) (by kernel_rfl) (by decide) (Each.cons rfl ?_ <| Each.nil) 
      refine L.guardT (dj := 137) rfl rfl rfl ?_
      refine L.call rfl (evs.cons rfl <| evs.nil) qD qS (rtold_spec (g := nmF s) (o := a1) (p := p) (st := st) hnl) ?_
      rintro _ _ _ ⟨ta, tn, tc, rfl, htn, rfl, rfl⟩
      refine L.norm qA qA ?_
      refine L.ownRsl (a := ta) (rows := (tellR st (srtG (nmF s) (liveR st 64))).map e3) qP ?_
      refine A.backT rfl qD ?_
      refine A.branch (is := [11]) (by kernel_rfl) (by decide) (Each.cons rfl ?_ <| Each.nil) 
      refine L.guardT (dj := 137) rfl rfl rfl ?_
      refine L.callF rfl (evs.cons rfl <| evs.cons rfl <| evs.nil) qD qS (same_spec (xs := tellR st (srtG (nmF s) (liveR st 64))) (ys := tellR st (srtG (nmF s) (liveR st 64))) (by omega) (by omega)) (by rintro u D1 M1 ⟨rfl, rfl, rfl⟩; exact ⟨rfl, _, qA, qF⟩) ?_
      refine A.backT rfl qD ?_
      refine A.takeP (i := 12) rfl rfl rfl rfl (by kernel_rfl) (by kernel_rfl) (by kernel_rfl) rfl qD ?_
      refine L.guardT (dj := 137) rfl rfl rfl ?_
      refine L.notB rfl rfl ?_
      refine A.took ?_
      refine A.branch (is := [13]) (by kernel_rfl) (by decide) (Each.cons rfl ?_ <| Each.nil) 
      refine L.pickF rfl rfl rfl ?_
      refine A.backT rfl qD ?_
      refine A.takeP (i := 14) rfl rfl rfl rfl (by kernel_rfl) (by kernel_rfl) (by kernel_rfl) rfl qD ?_
      refine L.move rfl rfl ?_
      refine A.took ?_
      refine A.known (t := 145) rfl (show _ = Value.bool false from congrArg Value.bool (by simp)) ?_
      refine A.takeP (i := 15) rfl rfl rfl rfl (by kernel_rfl) (by kernel_rfl) (by kernel_rfl) rfl qD ?_
      refine L.guardT (dj := 145) rfl rfl rfl ?_
      refine L.move rfl rfl ?_
      refine A.took ?_
      refine A.branch (is := [16, 17]) (by kernel_rfl) (by decide) (Each.cons rfl ?_ <| Each.cons rfl ?_ <| Each.nil) 
      · skip
        refine L.guardT (dj := 145) rfl rfl rfl ?_
        refine L.call rfl (evs.cons rfl <| evs.nil) qD qS (over_spec (g := nmF s) (o := a1) (m1 := sm1) (m2 := sm2) (lo := lo) hnl (hR.len hnd)) ?_
        rintro _ _ _ ⟨ys3, rfl, hS3, rfl, rfl⟩
        refine L.norm qA qA ?_
        rw [← hR.over hnl hnd hS3]
        refine A.backT rfl qD ?_
        refine A.branch (is := [17]) (by kernel_rfl) (by decide) (Each.cons rfl ?_ <| Each.nil) 
        refine L.guardT (dj := 145) rfl rfl rfl ?_
        refine L.loadA rfl ag46 rfl qN ?_
        refine A.backT rfl qD ?_
        refine A.branch (is := [18]) (by kernel_rfl) (by decide) (Each.cons rfl ?_ <| Each.nil) 
        refine L.guardT (dj := 145) rfl rfl rfl ?_
        refine L.call rfl (evs.cons rfl <| evs.nil) qD qS (rover_spec (g := nmF s) (o := a1) (p := p) (st := st) hnl) ?_
        rintro _ _ _ ⟨rfl, rfl, rfl⟩
        refine L.norm qA qA ?_
        refine A.backT rfl qD ?_
        refine A.takeP (i := 19) rfl rfl rfl rfl (by kernel_rfl) (by kernel_rfl) (by kernel_rfl) rfl qD ?_
        refine L.guardT (dj := 145) rfl rfl rfl ?_
        refine L.neqB Try.underlying4 rfl rfl rfl ?_
        refine A.took ?_
        refine A.branch (is := [20]) (by kernel_rfl) (by decide) (Each.cons rfl ?_ <| Each.nil) 
        refine L.pickF rfl rfl rfl ?_
        refine A.backT rfl qD ?_
        refine A.done (by kernel_rfl) ?_
        refine T.thenN ?_
        refine T.condF rfl (bne_self_eq_false _) ?_
        refine T.skip ?_
        refine T.blkN ?_
        refine T.thenN ?_
        refine T.region ?_
        refine L.move rfl rfl ?_
        refine L.addN rfl rfl rfl (by omega) ?_
        refine L.assign rfl rfl ?_
        refine L.nil ?_
        refine T.thenN ?_
        exact T.back ⟨i + 1, nowb, lo, lh, p, st, si, hv, ⟨by omega, by omega, hR⟩, rfl, rfl, rfl, rfl⟩ qI (.cons (t := 13) rfl <| .cons (t := 12) rfl <| SubK.nil _) (.cons (t := 3) rfl <| .cons (t := 9) rfl <| .cons (t := 10) rfl <| .cons (t := 11) rfl <| SubK.nil _) qD qD qF
      · skip
        refine L.guardT (dj := 145) rfl rfl rfl ?_
        refine L.loadA rfl ag46 rfl qN ?_
        refine A.backT rfl qD ?_
        refine A.branch (is := [16]) (by kernel_rfl) (by decide) (Each.cons rfl ?_ <| Each.nil) 
        refine L.guardT (dj := 145) rfl rfl rfl ?_
        refine L.call rfl (evs.cons rfl <| evs.nil) qD qS (over_spec (g := nmF s) (o := a1) (m1 := sm1) (m2 := sm2) (lo := lo) hnl (hR.len hnd)) ?_
        rintro _ _ _ ⟨ys3, rfl, hS3, rfl, rfl⟩
        refine L.norm qA qA ?_
        rw [← hR.over hnl hnd hS3]
        refine A.backT rfl qD ?_
        refine A.branch (is := [18]) (by kernel_rfl) (by decide) (Each.cons rfl ?_ <| Each.nil) 
        refine L.guardT (dj := 145) rfl rfl rfl ?_
        refine L.call rfl (evs.cons rfl <| evs.nil) qD qS (rover_spec (g := nmF s) (o := a1) (p := p) (st := st) hnl) ?_
        rintro _ _ _ ⟨rfl, rfl, rfl⟩
        refine L.norm qA qA ?_
        refine A.backT rfl qD ?_
        refine A.takeP (i := 19) rfl rfl rfl rfl (by kernel_rfl) (by kernel_rfl) (by kernel_rfl) rfl qD ?_
        refine L.guardT (dj := 145) rfl rfl rfl ?_
        refine L.neqB Try.underlying4 rfl rfl rfl ?_
        refine A.took ?_
        refine A.branch (is := [20]) (by kernel_rfl) (by decide) (Each.cons rfl ?_ <| Each.nil) 
        refine L.pickF rfl rfl rfl ?_
        refine A.backT rfl qD ?_
        refine A.done (by kernel_rfl) ?_
        refine T.thenN ?_
        refine T.condF rfl (bne_self_eq_false _) ?_
        refine T.skip ?_
        refine T.blkN ?_
        refine T.thenN ?_
        refine T.region ?_
        refine L.move rfl rfl ?_
        refine L.addN rfl rfl rfl (by omega) ?_
        refine L.assign rfl rfl ?_
        refine L.nil ?_
        refine T.thenN ?_
        exact T.back ⟨i + 1, nowb, lo, lh, p, st, si, hv, ⟨by omega, by omega, hR⟩, rfl, rfl, rfl, rfl⟩ qI (.cons (t := 13) rfl <| .cons (t := 12) rfl <| SubK.nil _) (.cons (t := 3) rfl <| .cons (t := 9) rfl <| .cons (t := 10) rfl <| .cons (t := 11) rfl <| SubK.nil _) qD qD qF
  · try simp only [decide_eq_true_eq, decide_eq_false_iff_not, Bool.not_eq_true', Bool.not_eq_false', Bool.and_eq_true, Bool.or_eq_true] at h47
    have hwf : ¬ (i < len3 ∧ i < 50) := fun e => by have := hw.2 e; rw [h47] at this; cases this
    refine T.exit ?_
    refine T.thenX ?_
    refine T.thenX ?_
    refine T.blkX ?_
    refine T.thenN ?_
    refine T.seq ?_
    refine T.regionA (clsL [1, 0, 0, 1, 1]) (by kernel_rfl) ?_
    refine A.takeP (i := 0) rfl rfl rfl rfl (by kernel_rfl) (by kernel_rfl) (by kernel_rfl) rfl qD ?_
    refine L.move rfl rfl ?_
    refine A.took ?_
    refine A.take (i := 2) rfl rfl rfl rfl (by kernel_rfl) (by kernel_rfl) (by kernel_rfl) (by kernel_rfl) rfl qD qF ?_
    refine L.loadA rfl ag27 rfl qN ?_
    refine A.took ?_
    refine A.branch (is := [1]) (by kernel_rfl) (by decide) (Each.cons rfl ?_ <| Each.nil) 
    refine L.call rfl (evs.cons rfl <| evs.nil) qD qS (goal_spec (g := nmF s) (o := a1) (m1 := sm1) (m2 := sm2) hnl) ?_
    rintro _ _ _ ⟨rfl, rfl, rfl⟩
    refine L.norm qA qA ?_
    refine A.back rfl qD qF ?_
    refine A.takeP (i := 3) rfl rfl rfl rfl (by kernel_rfl) (by kernel_rfl) (by kernel_rfl) rfl qD ?_
    refine L.eqlArrI (by kernel_rfl) rfl Try.underlying27 Try.underlying5 sc5 rfl rfl qL qL ?_
    refine A.took ?_
    refine A.takeP (i := 4) rfl rfl rfl rfl (by kernel_rfl) (by kernel_rfl) (by kernel_rfl) rfl qD ?_
    refine L.assign rfl rfl ?_
    refine A.took ?_
    refine A.done (by kernel_rfl) ?_
    refine T.thenN ?_
    refine T.ret ?_
    exact T.ret1 rfl rfl ⟨congrArg Value.bool (by simp), rfl, rfl⟩ qD qF
end Cv
