/-
  The walks: the law that a search ends.
-/
import Derived.Test.YtjacegfanhejdaaU20
import Derived.Test.YtjacegfanhejdaaCvLf
import Derived.Test.YtjacegfanhejdaaProg
import Derived.KernelRfl
set_option linter.unusedVariables false
set_option linter.unusedSimpArgs false
set_option linter.unusedSectionVars false
set_option maxRecDepth 10000
namespace Cv
open Go Go.Proofs
section
variable {H : Type} {enc : TypeId × Value → H} {W : World} {base : Nat} {sp : Nat → Bool} {held : Bool}
theorem el_sl {n : Nat} {cs : List Value} {y : DataW H × List MemPlace} (h : DataW.trod enc Try.prog W base sp held n 22 cs = some y) :
    ∃ z : SL, cs = slE z ∧ rsl 1 z.1 z.2.1 z.2.2.1 (z.2.2.2.map e3) (hp W) := by
  have hcs : ∃ a len cap, cs = [.slice a len cap] := by
    rcases Deep.open_slice Try.underlying22 h with ⟨h1, _⟩ | ⟨ad, len, cap, _, _, _, _, h1, _⟩
    · exact ⟨_, _, _, h1⟩
    · exact ⟨_, _, _, h1⟩
  obtain ⟨a, len, cap, rfl⟩ := hcs
  obtain ⟨xs, h1, _⟩ := arg_slice (sz := 1) e3 g3 Try.underlying22 (by kernel_rfl) (by decide) (fun h => el3z h) (by simpa [Value.cells] using h)
  exact ⟨(a, len, cap, xs), rfl, h1⟩
end
theorem sz22 : Sz Try.prog 22 1 := fun w => by kernel_rfl
set_option maxHeartbeats 1000000 in
theorem seekends_law (s : List UInt8) (a1 : Option Addr) (len1 cap1 : Nat) (zs : List SL) (hz : zs.length = len1) (a2 : Option Addr) (len2 cap2 : Nat) (xs2 : List Int) (a3 : Option Addr) (len3 cap3 : Nat) (xs3 : List Int) (hb1 : len1 ≤ 4611686018427387904)  : Spec Try.prog 4 [S s, .slice a1 len1 cap1, .slice a2 len2 cap2, .slice a3 len3 cap3] [rsl 1 a1 len1 cap1 (zs.map slE), slsA zs, rsl 1 a2 len2 cap2 (xs2.map e3), rsl 1 a3 len3 cap3 (xs3.map e3)] [] (fun v D' M' => v = .bool true ∧ D' = [] ∧ M' = []) := by
  refine Spec.intro (n := 161) Try.func4 rfl rfl (by decide) (Nat.le_of_ble_eq_true rfl) rfl (fun _ => qA) (fun _ => qA) ?_
  intro σ D M
  have hnl := nmF_len s
  refine T.seq ?_
  refine T.region ?_
  refine L.assign rfl rfl ?_
  refine L.nil ?_
  refine T.thenN ?_
  refine T.seq ?_
  refine T.seq ?_
  refine T.region ?_
  refine L.call rfl (evs.nil) qD qS (awake_spec) ?_
  rintro _ _ _ ⟨rfl, rfl, rfl⟩
  refine L.norm qA qA ?_
  refine L.notB rfl rfl ?_
  refine L.nil ?_
  refine T.thenN ?_
  refine T.condF rfl rfl ?_
  refine T.skip ?_
  refine T.thenN ?_
  refine T.seq ?_
  refine T.region ?_
  refine L.move rfl rfl ?_
  refine L.call rfl (evs.cons rfl <| evs.nil) qD qS (name_spec) ?_
  rintro _ _ _ ⟨rfl, rfl, rfl⟩
  refine L.norm qA qA ?_
  refine L.alloc rfl ze27 (fun b9 => ?_)
  refine L.storeA ag27 rfl rfl qL qO qU qW ?_
  refine L.nil ?_
  refine T.freeze (A := cl b9 27 ((nmF s).map Y)) qP ?_
  refine T.thenN ?_
  refine T.seq ?_
  refine T.regionA (clsL [0, 1, 0, 2, 1]) (by kernel_rfl) ?_
  refine A.takeP (i := 1) rfl rfl rfl rfl (by kernel_rfl) (by kernel_rfl) (by kernel_rfl) rfl qD ?_
  refine L.move rfl rfl ?_
  refine A.took ?_
  skip
  refine A.take (i := 0) rfl rfl rfl rfl (by kernel_rfl) (by kernel_rfl) (by kernel_rfl) (by kernel_rfl) rfl qD qF ?_
  refine L.loadA rfl ag27 rfl qN ?_
  refine A.took ?_
  refine A.branch (is := [2]) (by kernel_rfl) (by decide) (Each.cons rfl ?_ <| Each.nil) 
  refine L.call rfl (evs.cons rfl <| evs.nil) qD qS (few_spec (xs := xs3)) ?_
  rintro _ _ _ ⟨fa, fn, fc, rfl, hf3, hf3l, rfl, rfl⟩
  refine L.norm qA qA ?_
  refine A.back rfl qD qF ?_
  refine A.branch (is := [3]) (by kernel_rfl) (by decide) (Each.cons rfl ?_ <| Each.nil) 
  refine L.call rfl (evs.cons rfl <| evs.cons rfl <| evs.cons rfl <| evs.nil) qD qS (snew_spec (g := nmF s) (o := 63) (ns := fewF xs3) hnl (by omega)) ?_
  rintro _ _ _ ⟨sb, sm1, sm2, rfl, rfl, rfl⟩
  refine L.norm qA qA ?_
  refine A.backT rfl qD ?_
  refine A.takeP (i := 4) rfl rfl rfl rfl (by kernel_rfl) (by kernel_rfl) (by kernel_rfl) rfl qD ?_
  refine L.assign rfl rfl ?_
  refine A.took ?_
  refine A.done (by kernel_rfl) ?_
  refine T.thenN ?_
  refine T.seq ?_
  refine T.region ?_
  refine L.makeMap iK iK rfl (fun qb => ?_)
  refine L.assign rfl rfl ?_
  refine L.nil ?_
  refine T.thenN ?_
  refine T.seq ?_
  refine T.seq ?_
  refine T.region ?_
  refine L.move rfl rfl ?_
  refine L.call rfl (evs.cons rfl <| evs.nil) qD qS (few_spec (xs := xs2)) ?_
  rintro _ _ _ ⟨qa, qn, qc, rfl, hf2, hf2l, rfl, rfl⟩
  refine L.norm qA qA ?_
  refine L.lenSl rfl Try.underlying22 rfl ?_
  refine L.move rfl rfl ?_
  refine L.nil ?_
  refine T.thenN ?_
  refine T.block ?_
  refine T.loop (fun K' D' M' μ => ∃ (i : Nat) (lqi : List (Int × Int)), (i ≤ qn ∧ lqi = incF [] ((fewF xs2).take i)) ∧ K' = [(40, .int .i64 i)] ∧ D' = [] ∧ M' = [mp qb iK iK lqi] ∧ μ = qn - i) (.cons (t := 1) rfl <| .cons (t := 3) rfl <| .cons (t := 9) rfl <| .cons (t := 10) rfl <| .cons (t := 11) rfl <| .cons (t := 38) rfl <| .cons (t := 39) rfl <| SubK.nil _) (⟨0, [], ⟨by omega, rfl⟩, rfl, rfl, rfl, rfl⟩) (.cons (t := 40) rfl <| SubK.nil _) qD qS ?_
  rintro K1 D1 M1 m1 ⟨i, lqi, ⟨hi, hli⟩, rfl, rfl, rfl, rfl⟩
  refine T.norm3 qA qA qA ?_
  refine T.seq ?_
  refine T.region ?_
  refine L.ltI rfl rfl rfl ?_
  refine L.nil ?_
  refine T.thenN ?_
  refine T.seq ?_
  refine T.cond rfl (fun h41 => ?_) (fun h41 => ?_)
  · try simp only [decide_eq_true_eq, decide_eq_false_iff_not, Bool.not_eq_true', Bool.not_eq_false', Bool.and_eq_true, Bool.or_eq_true] at h41
    refine T.skip ?_
    refine T.thenN ?_
    refine T.seq ?_
    refine T.block ?_
    refine T.seq ?_
    have hgn : (fewF xs2)[i]? = some (gd (fewF xs2) i) := gd_get (by omega)
    obtain ⟨n, hn⟩ : ∃ x, x = gd (fewF xs2) i := ⟨_, rfl⟩
    rw [← hn] at hgn
    refine T.region ?_
    refine L.idx (i := i) rfl Try.underlying22 sz3 rfl rfl qM (by first | rfl | omega | (simp; done)) qG (fun b42 o42 => ?_)
    refine L.load rfl sc3 rfl qC ?_
    refine L.assign rfl rfl ?_
    refine L.nil ?_
    refine T.thenN ?_
    have hcb : 0 ≤ cn lqi n ∧ cn lqi n ≤ 8 := by have h0 := cn_inc (n := n) (ps := (fewF xs2).take i) (m := []); rw [← hli] at h0; have h1 : cn [] n = 0 := rfl; simp only [List.length_take] at h0; omega
    refine T.region ?_
    refine L.move rfl rfl ?_
    refine L.move rfl rfl ?_
    refine L.lookup1 rfl Try.underlying28 kt3 zv3 rfl rfl qM ?_
    refine L.known (t := 46) (u := .int .i64 (cn (lqi) n)) rfl (by unfold cn; cases look (lqi) n <;> rfl) ?_
    refine L.addN rfl rfl rfl (by omega) ?_
    refine L.mapUpdate (kenc := iK) (venc := iK) (l := lqi) (k := n) (v := cn lqi n + 1) Try.underlying28 kt3 rfl rfl rfl rfl qP ?_
    refine L.nil ?_
    refine T.blkN ?_
    refine T.thenN ?_
    refine T.region ?_
    refine L.addN rfl rfl rfl (by omega) ?_
    refine L.move rfl rfl ?_
    refine L.nil ?_
    refine T.thenN ?_
    exact T.back ⟨i + 1, put lqi n (cn lqi n + 1), ⟨by omega, by rw [incF_take hgn, ← hli]; rfl⟩, rfl, rfl, rfl, rfl⟩ qI (.cons (t := 40) rfl <| SubK.nil _) (.cons (t := 1) rfl <| .cons (t := 3) rfl <| .cons (t := 9) rfl <| .cons (t := 10) rfl <| .cons (t := 11) rfl <| .cons (t := 38) rfl <| .cons (t := 39) rfl <| SubK.nil _) qD qD qF
  · try simp only [decide_eq_true_eq, decide_eq_false_iff_not, Bool.not_eq_true', Bool.not_eq_false', Bool.and_eq_true, Bool.or_eq_true] at h41
    obtain rfl : i = qn := by omega
    rw [List.take_of_length_le (by omega)] at hli
    subst hli
    refine T.exit ?_
    refine T.thenX ?_
    refine T.thenX ?_
    refine T.blkX ?_
    refine T.thenN ?_
    refine T.seq ?_
    obtain ⟨lq, hlq⟩ : ∃ lq, lq = incF [] (fewF xs2) := ⟨_, rfl⟩
    rw [← hlq]
    have hqn : ∀ n, 0 ≤ cn lq n := fun n => by rw [hlq]; have h0 := cn_inc (n := n) (ps := fewF xs2) (m := []); have h1 : cn [] n = 0 := rfl; omega
    refine T.region ?_
    refine L.makeMap iK iK rfl (fun ab => ?_)
    refine L.assign rfl rfl ?_
    refine L.nil ?_
    refine T.thenN ?_
    refine T.seq ?_
    refine T.region ?_
    refine L.makeMap iK iK rfl (fun mb => ?_)
    refine L.assign rfl rfl ?_
    refine L.nil ?_
    refine T.thenN ?_
    refine T.seq ?_
    refine T.seq ?_
    refine T.region ?_
    refine L.move rfl rfl ?_
    refine L.call rfl (evs.cons rfl <| evs.nil) qD qS (few_spec (xs := xs3)) ?_
    rintro _ _ _ ⟨ma, mn, mc, rfl, hf4, hf4l, rfl, rfl⟩
    refine L.norm qA qA ?_
    refine L.lenSl rfl Try.underlying22 rfl ?_
    refine L.move rfl rfl ?_
    refine L.nil ?_
    refine T.thenN ?_
    refine T.block ?_
    refine T.loop (fun K' D' M' μ => ∃ (i : Nat) (lmi : List (Int × Int)), (i ≤ mn ∧ lmi = incF [] ((fewF xs3).take i)) ∧ K' = [(54, .int .i64 i)] ∧ D' = [] ∧ M' = [mp mb iK iK lmi] ∧ μ = mn - i) (.cons (t := 1) rfl <| .cons (t := 9) rfl <| .cons (t := 10) rfl <| .cons (t := 11) rfl <| .cons (t := 14) rfl <| .cons (t := 15) rfl <| .cons (t := 52) rfl <| .cons (t := 53) rfl <| SubK.nil _) (⟨0, [], ⟨by omega, rfl⟩, rfl, rfl, rfl, rfl⟩) (.cons (t := 54) rfl <| SubK.nil _) qD qS ?_
    rintro K1 D1 M1 m1 ⟨i, lmi, ⟨hi, hli⟩, rfl, rfl, rfl, rfl⟩
    refine T.norm3 qA qA qA ?_
    refine T.seq ?_
    refine T.region ?_
    refine L.ltI rfl rfl rfl ?_
    refine L.nil ?_
    refine T.thenN ?_
    refine T.seq ?_
    refine T.cond rfl (fun h55 => ?_) (fun h55 => ?_)
    · try simp only [decide_eq_true_eq, decide_eq_false_iff_not, Bool.not_eq_true', Bool.not_eq_false', Bool.and_eq_true, Bool.or_eq_true] at h55
      refine T.skip ?_
      refine T.thenN ?_
      refine T.seq ?_
      refine T.block ?_
      refine T.seq ?_
      have hgn : (fewF xs3)[i]? = some (gd (fewF xs3) i) := gd_get (by omega)
      obtain ⟨n, hn⟩ : ∃ x, x = gd (fewF xs3) i := ⟨_, rfl⟩
      rw [← hn] at hgn
      refine T.region ?_
      refine L.idx (i := i) rfl Try.underlying22 sz3 rfl rfl qM (by first | rfl | omega | (simp; done)) qG (fun b56 o56 => ?_)
      refine L.load rfl sc3 rfl qC ?_
      refine L.assign rfl rfl ?_
      refine L.nil ?_
      refine T.thenN ?_
      have hcb : 0 ≤ cn lmi n ∧ cn lmi n ≤ 8 := by have h0 := cn_inc (n := n) (ps := (fewF xs3).take i) (m := []); rw [← hli] at h0; have h1 : cn [] n = 0 := rfl; simp only [List.length_take] at h0; omega
      refine T.region ?_
      refine L.move rfl rfl ?_
      refine L.move rfl rfl ?_
      refine L.lookup1 rfl Try.underlying28 kt3 zv3 rfl rfl qM ?_
      refine L.known (t := 60) (u := .int .i64 (cn (lmi) n)) rfl (by unfold cn; cases look (lmi) n <;> rfl) ?_
      refine L.addN rfl rfl rfl (by omega) ?_
      refine L.mapUpdate (kenc := iK) (venc := iK) (l := lmi) (k := n) (v := cn lmi n + 1) Try.underlying28 kt3 rfl rfl rfl rfl qP ?_
      refine L.nil ?_
      refine T.blkN ?_
      refine T.thenN ?_
      refine T.region ?_
      refine L.addN rfl rfl rfl (by omega) ?_
      refine L.move rfl rfl ?_
      refine L.nil ?_
      refine T.thenN ?_
      exact T.back ⟨i + 1, put lmi n (cn lmi n + 1), ⟨by omega, by rw [incF_take hgn, ← hli]; rfl⟩, rfl, rfl, rfl, rfl⟩ qI (.cons (t := 54) rfl <| SubK.nil _) (.cons (t := 1) rfl <| .cons (t := 9) rfl <| .cons (t := 10) rfl <| .cons (t := 11) rfl <| .cons (t := 14) rfl <| .cons (t := 15) rfl <| .cons (t := 52) rfl <| .cons (t := 53) rfl <| SubK.nil _) qD qD qF
    · try simp only [decide_eq_true_eq, decide_eq_false_iff_not, Bool.not_eq_true', Bool.not_eq_false', Bool.and_eq_true, Bool.or_eq_true] at h55
      obtain rfl : i = mn := by omega
      rw [List.take_of_length_le (by omega)] at hli
      subst hli
      refine T.exit ?_
      refine T.thenX ?_
      refine T.thenX ?_
      refine T.blkX ?_
      refine T.thenN ?_
      refine T.seq ?_
      refine T.region ?_
      refine L.assign rfl rfl ?_
      refine L.nil ?_
      refine T.thenN ?_
      refine T.seq ?_
      refine T.seq ?_
      refine T.region ?_
      refine L.move rfl rfl ?_
      refine L.nil ?_
      refine T.thenN ?_
      refine T.block ?_
      refine T.loop (fun K' D' M' μ => ∃ (t : Nat) (lo : OfM) (mw aw : List (Int × Int)), (t ≤ 700 ∧ GI (quF lq) t lo mw aw) ∧ K' = [(63, .int .i64 t), (18, .int .i64 t)] ∧ D' = [] ∧ M' = [mp sm1 iK oneV lo, mp sm2 iK iK [], mp mb iK iK mw, mp ab iK iK aw] ∧ μ = 700 - t) (.cons (t := 1) rfl <| .cons (t := 9) rfl <| .cons (t := 10) rfl <| .cons (t := 11) rfl <| .cons (t := 14) rfl <| .cons (t := 15) rfl <| SubK.nil _) (⟨0, meetF 63 [] (fewF xs3), incF [] (fewF xs3), [], ⟨by omega, GI.zero (by omega)⟩, rfl, rfl, rfl, rfl⟩) (.cons (t := 63) rfl <| .cons (t := 18) rfl <| SubK.nil _) qD qS ?_
      rintro K1 D1 M1 m1 ⟨t, lo, mw, aw, ⟨ht, hI⟩, rfl, rfl, rfl, rfl⟩
      refine T.norm3 qA qA qA ?_
      refine T.seq ?_
      refine T.region ?_
      refine L.ltI rfl rfl rfl ?_
      refine L.nil ?_
      refine T.thenN ?_
      refine T.seq ?_
      refine T.cond rfl (fun h64 => ?_) (fun h64 => ?_)
      · try simp only [decide_eq_true_eq, decide_eq_false_iff_not, Bool.not_eq_true', Bool.not_eq_false', Bool.and_eq_true, Bool.or_eq_true] at h64
        refine T.skip ?_
        refine T.thenN ?_
        refine T.seq ?_
        refine T.block ?_
        refine T.seq ?_
        refine T.seq ?_
        refine T.mpNodup (kenc := iK) (venc := oneV) (b := sm1) qM (fun hnd => ?_)
        refine T.region ?_
        refine L.move rfl rfl ?_
        refine L.call rfl (evs.cons rfl <| evs.nil) qD qS (over_spec (g := nmF s) (o := 63) (m1 := sm1) (m2 := sm2) (lo := lo) hnl (hI.len hnd)) ?_
        rintro _ _ _ ⟨ys0, rfl, hS0, rfl, rfl⟩
        refine L.norm qA qA ?_
        refine L.nil ?_
        refine T.thenN ?_
        refine T.cond rfl (fun h66 => ?_) (fun h66 => ?_)
        · try simp only [decide_eq_true_eq, decide_eq_false_iff_not, Bool.not_eq_true', Bool.not_eq_false', Bool.and_eq_true, Bool.or_eq_true] at h66
          refine T.exit ?_
          refine T.thenX ?_
          refine T.blkY rfl ?_
          refine T.thenX ?_
          refine T.thenX ?_
          refine T.blkX ?_
          refine T.thenN ?_
          refine T.seq ?_
          have hov : (ys0.take 6).all (toldB lo) = true := h66
          refine T.region ?_
          refine L.buildSlice rfl bs22 (by decide) (BP.doneE (out := []) rfl) (fun b127 => ?_)
          refine L.toOwn (len := 0) (sz := 1) (e := 3) (rows := (ansF (quF lq) mw 0).map e3) qP (by rfl) rfl (by simp [ansF]) ?_
          refine L.assign rfl rfl ?_
          refine L.nil ?_
          refine T.thenN ?_
          refine T.seq ?_
          refine T.seq ?_
          refine T.region ?_
          refine L.move rfl rfl ?_
          refine L.nil ?_
          refine T.thenN ?_
          refine T.block ?_
          refine T.loop (fun K' D' M' μ => ∃ (i : Nat) (a25 : Option Addr) (n25 c25 : Nat), (i ≤ 63 ∧ (ansF (quF lq) mw i).length = n25) ∧ K' = [(128, .int .i64 i), (25, .slice a25 n25 c25)] ∧ D' = [] ∧ M' = [own 1 3 a25 n25 c25 ((ansF (quF lq) mw i).map e3)] ∧ μ = 63 - i) (.cons (t := 9) rfl <| .cons (t := 10) rfl <| .cons (t := 11) rfl <| .cons (t := 15) rfl <| SubK.nil _) (⟨0, _, 0, _, ⟨by omega, rfl⟩, rfl, rfl, rfl, rfl⟩) (.cons (t := 128) rfl <| .cons (t := 25) rfl <| SubK.nil _) qD qS ?_
          rintro K1 D1 M1 m1 ⟨i, a25, n25, c25, ⟨hi, hn25⟩, rfl, rfl, rfl, rfl⟩
          refine T.norm3 qA qA qA ?_
          have h25b : n25 ≤ 63 := by have := @ansF_len (quF lq) mw i; omega
          refine T.seq ?_
          refine T.region ?_
          refine L.ltI rfl rfl rfl ?_
          refine L.nil ?_
          refine T.thenN ?_
          refine T.seq ?_
          refine T.cond rfl (fun h129 => ?_) (fun h129 => ?_)
          · try simp only [decide_eq_true_eq, decide_eq_false_iff_not, Bool.not_eq_true', Bool.not_eq_false', Bool.and_eq_true, Bool.or_eq_true] at h129
            refine T.skip ?_
            refine T.thenN ?_
            refine T.seq ?_
            refine T.block ?_
            refine T.seq ?_
            refine T.region ?_
            refine L.move rfl rfl ?_
            refine L.assign rfl rfl ?_
            refine L.nil ?_
            refine T.thenN ?_
            refine T.seq ?_
            refine T.cutC (fun K' D' M' => ∃ (w : Bool), (w = true ↔ (0 < cn mw (i : Int) ∧ quF lq (i : Int) = false)) ∧ K' = [(140, .bool w)] ∧ D' = [] ∧ M' = []) (M0 := []) (.cons (t := 9) rfl <| .cons (t := 10) rfl <| .cons (t := 11) rfl <| .cons (t := 15) rfl <| .cons (t := 25) rfl <| .cons (t := 26) rfl <| .cons (t := 128) rfl <| SubK.nil _) qS ?_ ?_
            · skip
              rcases Decidable.em (0 < cn mw (i : Int)) with hs | hs
              · skip
                refine T.region ?_
                refine L.move rfl rfl ?_
                refine L.move rfl rfl ?_
                refine L.lookup1 rfl Try.underlying28 kt3 zv3 rfl rfl qM ?_
                refine L.known (t := 133) (u := .int .i64 (cn (mw) (i : Int))) rfl (by unfold cn; cases look (mw) (i : Int) <;> rfl) ?_
                refine L.gtI rfl rfl rfl ?_
                refine L.move rfl rfl ?_
                refine L.known (t := 135) rfl (show _ = Value.bool true from congrArg Value.bool (decide_eq_true hs)) ?_
                refine L.guardT (dj := 135) rfl rfl rfl ?_
                refine L.move rfl rfl ?_
                refine L.guardT (dj := 135) rfl rfl rfl ?_
                refine L.move rfl rfl ?_
                refine L.guardT (dj := 135) rfl rfl rfl ?_
                refine L.lookup1 rfl Try.underlying28 kt3 zv3 rfl rfl qM ?_
                refine L.known (t := 138) (u := .int .i64 (cn (lq) (i : Int))) rfl (by unfold cn; cases look (lq) (i : Int) <;> rfl) ?_
                refine L.guardT (dj := 135) rfl rfl rfl ?_
                refine L.eqI rfl rfl rfl ?_
                refine L.pickT rfl rfl rfl ?_
                refine L.nil ?_
                refine T.thenN ?_
                exact T.toJoin ⟨_, (by unfold quF; rw [decide_eq_true_eq, decide_eq_false_iff_not]; have := hqn (i : Int); omega), rfl, rfl, rfl⟩ (.cons (t := 140) rfl <| SubK.nil _) (.cons (t := 9) rfl <| .cons (t := 10) rfl <| .cons (t := 11) rfl <| .cons (t := 15) rfl <| .cons (t := 25) rfl <| .cons (t := 26) rfl <| .cons (t := 128) rfl <| SubK.nil _) qD qD qF
              · skip
                refine T.region ?_
                refine L.move rfl rfl ?_
                refine L.move rfl rfl ?_
                refine L.lookup1 rfl Try.underlying28 kt3 zv3 rfl rfl qM ?_
                refine L.known (t := 133) (u := .int .i64 (cn (mw) (i : Int))) rfl (by unfold cn; cases look (mw) (i : Int) <;> rfl) ?_
                refine L.gtI rfl rfl rfl ?_
                refine L.move rfl rfl ?_
                refine L.known (t := 135) rfl (show _ = Value.bool false from congrArg Value.bool (decide_eq_false hs)) ?_
                refine L.guardF (dj := 135) (c := false) rfl rfl rfl rfl rfl (by decide) ?_
                refine L.guardF (dj := 135) (c := false) rfl rfl rfl rfl rfl (by decide) ?_
                refine L.guardF (dj := 135) (c := false) rfl rfl rfl rfl rfl (by decide) ?_
                refine L.guardF (dj := 135) (c := false) rfl rfl rfl rfl rfl (by decide) ?_
                refine L.pickF rfl rfl rfl ?_
                refine L.nil ?_
                refine T.thenN ?_
                exact T.toJoin ⟨_, ⟨(fun h => by cases h), (fun h => absurd h.1 hs)⟩, rfl, rfl, rfl⟩ (.cons (t := 140) rfl <| SubK.nil _) (.cons (t := 9) rfl <| .cons (t := 10) rfl <| .cons (t := 11) rfl <| .cons (t := 15) rfl <| .cons (t := 25) rfl <| .cons (t := 26) rfl <| .cons (t := 128) rfl <| SubK.nil _) qD qD qF
            rintro _ _ _ ⟨w, hw, rfl, rfl, rfl⟩
            refine T.norm3 qA qA qA ?_
            refine T.thenN ?_
            refine T.cond rfl (fun h140 => ?_) (fun h140 => ?_)
            · try simp only [decide_eq_true_eq, decide_eq_false_iff_not, Bool.not_eq_true', Bool.not_eq_false', Bool.and_eq_true, Bool.or_eq_true] at h140
              refine T.region ?_
              refine L.move rfl rfl ?_
              refine L.move rfl rfl ?_
              refine L.buildSlice rfl bs22 (by decide) (BP.one rfl rfl rfl <| BP.doneE (out := []) rfl) (fun b143 => ?_)
              refine L.append1 rfl Try.underlying22 el3 rfl rfl qP qM rfl qO1 qI qI (fun a144 c144 => ?_)
              refine L.assign rfl rfl ?_
              refine L.nil ?_
              refine T.blkN ?_
              refine T.thenN ?_
              refine T.region ?_
              refine L.addN rfl rfl rfl (by omega) ?_
              refine L.move rfl rfl ?_
              refine L.nil ?_
              refine T.thenN ?_
              refine T.ownEq _ ((ansF (quF lq) mw (i + 1)).map e3) qP (by rw [ansF_s, if_pos (hw.1 h140), List.map_append]; rfl) ?_
              exact T.back ⟨i + 1, _, n25 + 1, _, ⟨by omega, by rw [ansF_s, if_pos (hw.1 h140), List.length_append, hn25]; rfl⟩, rfl, rfl, rfl, rfl⟩ qI (.cons (t := 128) rfl <| .cons (t := 25) rfl <| SubK.nil _) (.cons (t := 9) rfl <| .cons (t := 10) rfl <| .cons (t := 11) rfl <| .cons (t := 15) rfl <| SubK.nil _) qD qD qF
            · try simp only [decide_eq_true_eq, decide_eq_false_iff_not, Bool.not_eq_true', Bool.not_eq_false', Bool.and_eq_true, Bool.or_eq_true] at h140
              refine T.skip ?_
              refine T.blkN ?_
              refine T.thenN ?_
              refine T.region ?_
              refine L.addN rfl rfl rfl (by omega) ?_
              refine L.move rfl rfl ?_
              refine L.nil ?_
              refine T.thenN ?_
              refine T.ownEq _ ((ansF (quF lq) mw (i + 1)).map e3) qP (by rw [ansF_s, if_neg (fun e => by rw [hw.2 e] at h140; cases h140)]) ?_
              exact T.back ⟨i + 1, _, n25, _, ⟨by omega, by rw [ansF_s, if_neg (fun e => by rw [hw.2 e] at h140; cases h140)]; exact hn25⟩, rfl, rfl, rfl, rfl⟩ qI (.cons (t := 128) rfl <| .cons (t := 25) rfl <| SubK.nil _) (.cons (t := 9) rfl <| .cons (t := 10) rfl <| .cons (t := 11) rfl <| .cons (t := 15) rfl <| SubK.nil _) qD qD qF
          · try simp only [decide_eq_true_eq, decide_eq_false_iff_not, Bool.not_eq_true', Bool.not_eq_false', Bool.and_eq_true, Bool.or_eq_true] at h129
            obtain rfl : i = 63 := by omega
            refine T.exit ?_
            refine T.thenX ?_
            refine T.thenX ?_
            refine T.blkX ?_
            refine T.thenN ?_
            refine T.seq ?_
            refine T.ownRsl (rows := (ansF (quF lq) mw 63).map e3) qP ?_
            refine T.region ?_
            refine L.loadA rfl ag27 rfl qN ?_
            refine L.move rfl rfl ?_
            refine L.call rfl (evs.cons rfl <| evs.cons rfl <| evs.nil) qD qS (bsort_spec (g := nmF s) (xs := ansF (quF lq) mw 63) hnl (by have := @ansF_len (quF lq) mw 63; omega)) ?_
            rintro _ _ _ ⟨ga, gc, gs, rfl, hZ, rfl, rfl⟩
            refine L.norm qA qA ?_
            refine L.assign rfl rfl ?_
            refine L.nil ?_
            have hgl : gs.length = n25 := by rw [hZ.1.length_eq]; exact hn25
            refine T.ownRsl (rows := gs.map e3) qP ?_
            refine T.rslLen2 (rows := gs.map e3) qM (fun hgl2 hgc => ?_)
            refine T.derive (φ := rsl 1 ga n25 gc (gs.map e3)) (ψ := rsl 1 ga (min 6 n25) gc ((gs.take (min 6 n25)).map e3)) qM (fun z H => by rw [List.map_take]; exact rsl_to (by omega) H) ?_
            refine T.thenN ?_
            refine T.seq ?_
            refine T.regionA (clsL [1, 2, 1, 1, 2, 1, 1, 1, 1, 2, 2, 2, 1]) (by kernel_rfl) ?_
            refine A.takeP (i := 0) rfl rfl rfl rfl (by kernel_rfl) (by kernel_rfl) (by kernel_rfl) rfl qD ?_
            refine L.move rfl rfl ?_
            refine A.took ?_
            refine A.branch (is := [1]) (by kernel_rfl) (by decide) (Each.cons rfl ?_ <| Each.nil) 
            refine L.call rfl (evs.cons rfl <| evs.nil) qD qS (over_spec (g := nmF s) (o := 63) (m1 := sm1) (m2 := sm2) (lo := lo) hnl (hI.len hnd)) ?_
            rintro _ _ _ ⟨ys3, rfl, hS3, rfl, rfl⟩
            refine L.norm qA qA ?_
            have hov3 := (ends_law hnl hI hnd hS0 hov hS3 hZ).2
            refine A.backT rfl qD ?_
            refine A.takeP (i := 2) rfl rfl rfl rfl (by kernel_rfl) (by kernel_rfl) (by kernel_rfl) rfl qD ?_
            refine L.move rfl rfl ?_
            refine A.took ?_
            refine A.known (t := 151) rfl (show _ = Value.bool true from congrArg Value.bool (hov3)) ?_
            refine A.takeP (i := 3) rfl rfl rfl rfl (by kernel_rfl) (by kernel_rfl) (by kernel_rfl) rfl qD ?_
            refine L.guardT (dj := 151) rfl rfl rfl ?_
            refine L.move rfl rfl ?_
            refine A.took ?_
            refine A.takeP (i := 5) rfl rfl rfl rfl (by kernel_rfl) (by kernel_rfl) (by kernel_rfl) rfl qD ?_
            refine L.guardT (dj := 151) rfl rfl rfl ?_
            refine L.move rfl rfl ?_
            refine A.took ?_
            refine A.takeP (i := 6) rfl rfl rfl rfl (by kernel_rfl) (by kernel_rfl) (by kernel_rfl) rfl qD ?_
            refine L.guardT (dj := 151) rfl rfl rfl ?_
            refine L.move rfl rfl ?_
            refine A.took ?_
            refine A.takeP (i := 7) rfl rfl rfl rfl (by kernel_rfl) (by kernel_rfl) (by kernel_rfl) rfl qD ?_
            refine L.guardT (dj := 151) rfl rfl rfl ?_
            refine L.lenSl rfl Try.underlying22 rfl ?_
            refine A.took ?_
            refine A.takeP (i := 8) rfl rfl rfl rfl (by kernel_rfl) (by kernel_rfl) (by kernel_rfl) rfl qD ?_
            refine L.guardT (dj := 151) rfl rfl rfl ?_
            refine L.minI rfl rfl rfl ?_
            rw [show min (6 : Int) (n25 : Int) = ((min 6 n25 : Nat) : Int) by omega]
            refine A.took ?_
            refine A.branch (is := [4, 9]) (by kernel_rfl) (by decide) (Each.cons rfl ?_ <| Each.cons rfl ?_ <| Each.nil) 
            · skip
              refine L.guardT (dj := 151) rfl rfl rfl ?_
              refine L.call rfl (evs.cons rfl <| evs.nil) qD qS (nearest_spec (g := nmF s) (o := 63) (m1 := sm1) (m2 := sm2) (lo := lo) hnl (hI.len hnd)) ?_
              rintro _ _ _ ⟨na, nn, nc, ys2, rfl, hS2, hnn, rfl, rfl⟩
              refine L.norm qA qA ?_
              have hfin := (ends_law hnl hI hnd hS0 hov hS2 hZ).1
              refine L.ownRsl (rows := ((ys2.filter (toldB lo)).take 6).map e3) qP ?_
              refine A.backT rfl qD ?_
              refine A.branch (is := [9]) (by kernel_rfl) (by decide) (Each.cons rfl ?_ <| Each.nil) 
              refine L.guardT (dj := 151) rfl rfl rfl ?_
              refine L.sliceTo rfl Try.underlying22 sz3 rfl (Bd.at (x := min 6 n25) rfl (by first | rfl | omega | (simp; done))) qI ?_
              refine A.backT rfl qD ?_
              refine A.branch (is := [10]) (by kernel_rfl) (by decide) (Each.cons rfl ?_ <| Each.nil) 
              refine L.guardT (dj := 151) rfl rfl rfl ?_
              refine L.call rfl (evs.cons rfl <| evs.cons rfl <| evs.nil) qD qS (same_spec (xs := (ys2.filter (toldB lo)).take 6) (ys := gs.take (min 6 n25)) (by rw [← hnn, List.length_take]; omega) (by omega)) ?_
              rintro _ _ _ ⟨rfl, rfl, rfl⟩
              refine L.norm qA qA ?_
              refine A.backT rfl qD ?_
              refine A.branch (is := [11]) (by kernel_rfl) (by decide) (Each.cons rfl ?_ <| Each.nil) 
              refine L.pickT rfl rfl rfl ?_
              refine A.backT rfl qD ?_
              refine A.takeP (i := 12) rfl rfl rfl rfl (by kernel_rfl) (by kernel_rfl) (by kernel_rfl) rfl qD ?_
              refine L.assign rfl rfl ?_
              refine A.took ?_
              refine A.done (by kernel_rfl) ?_
              refine T.thenN ?_
              refine T.ret ?_
              exact T.ret1 rfl rfl ⟨congrArg Value.bool (decide_eq_true (hfin.trans (tk6 hgl))), rfl, rfl⟩ qD qF
            · skip
              refine L.guardT (dj := 151) rfl rfl rfl ?_
              refine L.sliceTo rfl Try.underlying22 sz3 rfl (Bd.at (x := min 6 n25) rfl (by first | rfl | omega | (simp; done))) qI ?_
              refine A.backT rfl qD ?_
              refine A.branch (is := [4]) (by kernel_rfl) (by decide) (Each.cons rfl ?_ <| Each.nil) 
              refine L.guardT (dj := 151) rfl rfl rfl ?_
              refine L.call rfl (evs.cons rfl <| evs.nil) qD qS (nearest_spec (g := nmF s) (o := 63) (m1 := sm1) (m2 := sm2) (lo := lo) hnl (hI.len hnd)) ?_
              rintro _ _ _ ⟨na, nn, nc, ys2, rfl, hS2, hnn, rfl, rfl⟩
              refine L.norm qA qA ?_
              have hfin := (ends_law hnl hI hnd hS0 hov hS2 hZ).1
              refine L.ownRsl (rows := ((ys2.filter (toldB lo)).take 6).map e3) qP ?_
              refine A.backT rfl qD ?_
              refine A.branch (is := [10]) (by kernel_rfl) (by decide) (Each.cons rfl ?_ <| Each.nil) 
              refine L.guardT (dj := 151) rfl rfl rfl ?_
              refine L.call rfl (evs.cons rfl <| evs.cons rfl <| evs.nil) qD qS (same_spec (xs := (ys2.filter (toldB lo)).take 6) (ys := gs.take (min 6 n25)) (by rw [← hnn, List.length_take]; omega) (by omega)) ?_
              rintro _ _ _ ⟨rfl, rfl, rfl⟩
              refine L.norm qA qA ?_
              refine A.backT rfl qD ?_
              refine A.branch (is := [11]) (by kernel_rfl) (by decide) (Each.cons rfl ?_ <| Each.nil) 
              refine L.pickT rfl rfl rfl ?_
              refine A.backT rfl qD ?_
              refine A.takeP (i := 12) rfl rfl rfl rfl (by kernel_rfl) (by kernel_rfl) (by kernel_rfl) rfl qD ?_
              refine L.assign rfl rfl ?_
              refine A.took ?_
              refine A.done (by kernel_rfl) ?_
              refine T.thenN ?_
              refine T.ret ?_
              exact T.ret1 rfl rfl ⟨congrArg Value.bool (decide_eq_true (hfin.trans (tk6 hgl))), rfl, rfl⟩ qD qF
        · try simp only [decide_eq_true_eq, decide_eq_false_iff_not, Bool.not_eq_true', Bool.not_eq_false', Bool.and_eq_true, Bool.or_eq_true] at h66
          refine T.skip ?_
          refine T.thenN ?_
          refine T.seq ?_
          refine T.region ?_
          refine L.assign rfl rfl ?_
          refine L.nil ?_
          refine T.thenN ?_
          refine T.seq ?_
          refine T.seq ?_
          have hno : (ys0.take 6).all (toldB lo) = false := by simpa using @h66
          refine T.region ?_
          refine L.move rfl rfl ?_
          refine L.move rfl rfl ?_
          refine L.call rfl (evs.cons rfl <| evs.cons rfl <| evs.nil) qD qS (ask_spec (g := nmF s) (o := 63) (m1 := sm1) (m2 := sm2) (lo := lo) (now := (t : Int)) hnl (hI.len hnd) (hI.since hnd) (by omega)) ?_
          rintro _ _ _ ⟨la, ln, lc, ys, out, l2, rfl, hS, hA, hol, rfl, rfl⟩
          refine L.norm qA qA ?_
          refine L.lenSl rfl Try.underlying22 rfl ?_
          refine L.move rfl rfl ?_
          refine L.nil ?_
          refine T.ownRsl (rows := out.map e3) qP ?_
          have hAI := AskI.of hnd hS hA
          have hln3 : ln ≤ 3 := by have := hAI.len; omega
          refine T.thenN ?_
          refine T.block ?_
          refine T.loop (fun K' D' M' μ => ∃ (j : Nat) (lj : OfM) (mj aj : List (Int × Int)), (j ≤ ln ∧ GM (quF lq) t l2 out aw j lj mj aj) ∧ K' = [(71, .int .i64 j), (19, .int .i64 j)] ∧ D' = [] ∧ M' = [mp sm1 iK oneV lj, mp sm2 iK iK [], mp mb iK iK mj, mp ab iK iK aj] ∧ μ = ln - j) (.cons (t := 1) rfl <| .cons (t := 9) rfl <| .cons (t := 10) rfl <| .cons (t := 11) rfl <| .cons (t := 14) rfl <| .cons (t := 15) rfl <| .cons (t := 18) rfl <| .cons (t := 63) rfl <| .cons (t := 69) rfl <| .cons (t := 70) rfl <| SubK.nil _) (⟨0, l2, mw, aw, ⟨by omega, GM.zero hI hAI⟩, rfl, rfl, rfl, rfl⟩) (.cons (t := 71) rfl <| .cons (t := 19) rfl <| SubK.nil _) qD qS ?_
          rintro K1 D1 M1 m1 ⟨j, lj, mj, aj, ⟨hj, hM⟩, rfl, rfl, rfl, rfl⟩
          refine T.norm3 qA qA qA ?_
          refine T.seq ?_
          refine T.region ?_
          refine L.ltI rfl rfl rfl ?_
          refine L.nil ?_
          refine T.thenN ?_
          refine T.seq ?_
          refine T.cond rfl (fun h72 => ?_) (fun h72 => ?_)
          · try simp only [decide_eq_true_eq, decide_eq_false_iff_not, Bool.not_eq_true', Bool.not_eq_false', Bool.and_eq_true, Bool.or_eq_true] at h72
            refine T.skip ?_
            refine T.thenN ?_
            refine T.seq ?_
            refine T.block ?_
            refine T.seq ?_
            have hgn : (out)[j]? = some (gd (out) j) := gd_get (by omega)
            obtain ⟨n, hn⟩ : ∃ x, x = gd (out) j := ⟨_, rfl⟩
            rw [← hn] at hgn
            have hfr := hM.fresh hI hAI hgn
            refine T.region ?_
            refine L.idx (i := j) rfl Try.underlying22 sz3 rfl rfl qM (by first | rfl | omega | (simp; done)) qG (fun b73 o73 => ?_)
            refine L.load rfl sc3 rfl qC ?_
            refine L.assign rfl rfl ?_
            refine L.nil ?_
            refine T.thenN ?_
            refine T.seq ?_
            refine T.seq ?_
            refine T.region ?_
            refine L.move rfl rfl ?_
            refine L.move rfl rfl ?_
            refine L.lookup1 rfl Try.underlying28 kt3 zv3 rfl rfl qM ?_
            refine L.known (t := 77) (u := .int .i64 0) rfl (by rw [hfr.1]; rfl) ?_
            refine L.addN rfl rfl rfl (by omega) ?_
            refine L.mapUpdate (kenc := iK) (venc := iK) (l := aj) (k := n) (v := (0 + 1)) Try.underlying28 kt3 rfl rfl rfl rfl qP ?_
            refine L.nil ?_
            refine T.eqv qP (show mp ab iK iK (put aj n (0 + 1)) = mp ab iK iK (put aj n 1) from rfl) ?_
            refine T.thenN ?_
            refine T.seq ?_
            refine T.region ?_
            refine L.move rfl rfl ?_
            refine L.move rfl rfl ?_
            refine L.lookup1 rfl Try.underlying28 kt3 zv3 rfl rfl qM ?_
            refine L.known (t := 81) (u := .int .i64 1) rfl (by rw [look_put, if_pos rfl]; rfl) ?_
            refine L.gtI rfl rfl rfl ?_
            refine L.move rfl rfl ?_
            refine L.known (t := 83) rfl (show _ = Value.bool false from congrArg Value.bool (decide_eq_false (by omega))) ?_
            refine L.guardT (dj := 83) rfl rfl rfl ?_
            refine L.move rfl rfl ?_
            refine L.guardT (dj := 83) rfl rfl rfl ?_
            refine L.eqI rfl rfl rfl ?_
            refine L.pickF rfl rfl rfl ?_
            refine L.nil ?_
            refine T.thenN ?_
            refine T.condF rfl (decide_eq_false hfr.2.1) ?_
            refine T.skip ?_
            refine T.thenN ?_
            refine T.seq ?_
            refine T.seq ?_
            refine T.region ?_
            refine L.move rfl rfl ?_
            refine L.addN rfl rfl rfl (by omega) ?_
            refine L.assign rfl rfl ?_
            refine L.nil ?_
            refine T.thenN ?_
            refine T.seq ?_
            refine T.region ?_
            refine L.move rfl rfl ?_
            refine L.gtI rfl rfl rfl ?_
            refine L.nil ?_
            refine T.thenN ?_
            refine T.condF rfl (decide_eq_false (by omega)) ?_
            refine T.skip ?_
            refine T.thenN ?_
            refine T.seq ?_
            refine T.seq ?_
            refine T.region ?_
            refine L.move rfl rfl ?_
            refine L.move rfl rfl ?_
            refine L.lookup1 rfl Try.underlying28 kt3 zv3 rfl rfl qM ?_
            refine L.known (t := 93) (u := .int .i64 (cn (lq) n)) rfl (by unfold cn; cases look (lq) n <;> rfl) ?_
            refine L.gtI rfl rfl rfl ?_
            refine L.nil ?_
            refine T.thenN ?_
            refine T.cond rfl (fun h94 => ?_) (fun h94 => ?_)
            · try simp only [decide_eq_true_eq, decide_eq_false_iff_not, Bool.not_eq_true', Bool.not_eq_false', Bool.and_eq_true, Bool.or_eq_true] at h94
              have hq : quF lq n = true := decide_eq_true h94
              refine T.exit ?_
              refine T.thenX ?_
              refine T.blkX ?_
              refine T.thenN ?_
              refine T.region ?_
              refine L.addN rfl rfl rfl (by omega) ?_
              refine L.move rfl rfl ?_
              refine L.nil ?_
              refine T.thenN ?_
              exact T.back ⟨j + 1, lj, mj, put aj n 1, ⟨by omega, hM.quiet hgn hq⟩, rfl, rfl, rfl, rfl⟩ qI (.cons (t := 71) rfl <| .cons (t := 19) rfl <| SubK.nil _) (.cons (t := 1) rfl <| .cons (t := 9) rfl <| .cons (t := 10) rfl <| .cons (t := 11) rfl <| .cons (t := 14) rfl <| .cons (t := 15) rfl <| .cons (t := 18) rfl <| .cons (t := 63) rfl <| .cons (t := 69) rfl <| .cons (t := 70) rfl <| SubK.nil _) qD qD qF
            · try simp only [decide_eq_true_eq, decide_eq_false_iff_not, Bool.not_eq_true', Bool.not_eq_false', Bool.and_eq_true, Bool.or_eq_true] at h94
              have hq : quF lq n = false := decide_eq_false h94
              refine T.skip ?_
              refine T.thenN ?_
              refine T.seq ?_
              refine T.region ?_
              refine L.buildSlice rfl bs22 (by decide) (BP.doneE (out := []) rfl) (fun b95 => ?_)
              refine L.toOwn (len := 0) (sz := 1) (e := 3) (rows := ([] : List Int).map e3) qP (by rfl) rfl (by simp) ?_
              refine L.ownRsl qP ?_
              refine L.assign rfl rfl ?_
              refine L.nil ?_
              refine T.thenN ?_
              refine T.seq ?_
              refine T.seq ?_
              refine T.region ?_
              refine L.move rfl rfl ?_
              refine L.move rfl rfl ?_
              refine L.lenSl rfl Try.underlying32 rfl ?_
              refine L.ltI rfl rfl rfl ?_
              refine L.nil ?_
              refine T.thenN ?_
              refine T.cutC (fun K' D' M' => ∃ (pa : Option Addr) (pn pc : Nat) (ps : List Int), (ps.length = pn ∧ pn ≤ 8) ∧ K' = [(22, .slice pa pn pc)] ∧ D' = [rsl 1 pa pn pc (ps.map e3)] ∧ M' = []) (M0 := []) (.cons (t := 1) rfl <| .cons (t := 9) rfl <| .cons (t := 10) rfl <| .cons (t := 11) rfl <| .cons (t := 14) rfl <| .cons (t := 15) rfl <| .cons (t := 18) rfl <| .cons (t := 19) rfl <| .cons (t := 21) rfl <| .cons (t := 63) rfl <| .cons (t := 69) rfl <| .cons (t := 70) rfl <| .cons (t := 71) rfl <| SubK.nil _) qS ?_ ?_
              · skip
                refine T.cond rfl (fun h99 => ?_) (fun h99 => ?_)
                · try simp only [decide_eq_true_eq, decide_eq_false_iff_not, Bool.not_eq_true', Bool.not_eq_false', Bool.and_eq_true, Bool.or_eq_true] at h99
                  obtain ⟨k, hk⟩ : ∃ k : Nat, n = (k : Int) := ⟨n.toNat, by omega⟩
                  have hgz : zs[k]? = some (gd zs k) := gd_get (by omega)
                  obtain ⟨z, hzz⟩ : ∃ x, x = gd zs k := ⟨_, rfl⟩
                  rw [← hzz] at hgz
                  refine T.derive (φ := slsA zs) (ψ := rsl 1 z.1 z.2.1 z.2.2.1 (z.2.2.2.map e3)) qM (fun h H => H z (List.mem_of_getElem? hgz)) ?_
                  refine T.region ?_
                  refine L.move rfl rfl ?_
                  refine L.move rfl rfl ?_
                  refine L.idx (i := k) rfl Try.underlying32 sz22 rfl rfl qM (by first | rfl | omega | (simp; done)) qG (fun b102 o102 => ?_)
                  refine L.load rfl sc22 rfl qC ?_
                  refine L.call rfl (evs.cons rfl <| evs.nil) qD qS (few_spec (xs := z.2.2.2)) ?_
                  rintro _ _ _ ⟨pa, pn, pc, rfl, hp2, hp2l, rfl, rfl⟩
                  refine L.norm qA qA ?_
                  refine L.assign rfl rfl ?_
                  refine L.nil ?_
                  refine T.thenN ?_
                  exact T.toJoin ⟨_, _, _, _, ⟨hp2l, by omega⟩, rfl, rfl, rfl⟩ (.cons (t := 22) rfl <| SubK.nil _) (.cons (t := 1) rfl <| .cons (t := 9) rfl <| .cons (t := 10) rfl <| .cons (t := 11) rfl <| .cons (t := 14) rfl <| .cons (t := 15) rfl <| .cons (t := 18) rfl <| .cons (t := 19) rfl <| .cons (t := 21) rfl <| .cons (t := 63) rfl <| .cons (t := 69) rfl <| .cons (t := 70) rfl <| .cons (t := 71) rfl <| SubK.nil _) qD qD qF
                · try simp only [decide_eq_true_eq, decide_eq_false_iff_not, Bool.not_eq_true', Bool.not_eq_false', Bool.and_eq_true, Bool.or_eq_true] at h99
                  refine T.skip ?_
                  refine T.thenN ?_
                  exact T.toJoin ⟨(some ⟨b95, 0, none⟩), 0, 0, [], ⟨rfl, by omega⟩, rfl, rfl, rfl⟩ (.cons (t := 22) rfl <| SubK.nil _) (.cons (t := 1) rfl <| .cons (t := 9) rfl <| .cons (t := 10) rfl <| .cons (t := 11) rfl <| .cons (t := 14) rfl <| .cons (t := 15) rfl <| .cons (t := 18) rfl <| .cons (t := 19) rfl <| .cons (t := 21) rfl <| .cons (t := 63) rfl <| .cons (t := 69) rfl <| .cons (t := 70) rfl <| .cons (t := 71) rfl <| SubK.nil _) qD qD qF
              rintro _ _ _ ⟨pa, pn, pc, ps, ⟨hpl, hpn8⟩, rfl, rfl, rfl⟩
              refine T.norm3 qA qA qA ?_
              refine T.thenN ?_
              refine T.seq ?_
              refine T.seq ?_
              have hans : Answ (nmF s) lj 4 n (nmF s) := ⟨by rw [st_some (hM.at_ hAI hgn)], rfl, rfl⟩
              refine T.region ?_
              refine L.move rfl rfl ?_
              refine L.move rfl rfl ?_
              refine L.loadA rfl ag27 rfl qN ?_
              refine L.move rfl rfl ?_
              refine L.build rfl bu38 (BP.one rfl rfl rfl <| BP.one rfl rfl rfl <| BP.skip <| BP.skip <| BP.agg rfl rfl (by first | with_reducible assumption | (simp; done) | (simp only [List.length_map]; with_reducible assumption) | (simp [*]; done) | rfl) (Nat.le_of_ble_eq_true rfl) qR <| BP.skip <| BP.skip <| BP.one rfl rfl rfl <| BP.doneE (out := [Value.slice none 0 0]) rfl) ?_
              refine L.known (t := 109) (u := .agg (letV 4 n 0 0 (nmF s) 0 [] pa pn pc none 0 0).toArray) rfl rfl ?_
              refine L.fact0 (φ := rsl 1 none 0 0 (([] : List Int).map e3)) (fun z => rsl_nil) ?_
              refine L.call rfl (evs.cons rfl <| evs.cons rfl <| evs.nil) qD qS (hear_spec (g := nmF s) (o := 63) (m1 := sm1) (m2 := sm2) (lo := lj) (lh := []) (kind := 4) (fr := n) (to_ := 0) (sq := 0) (what := 0) (id := nmF s) (tx := []) (pa := pa) (pl := pn) (pc := pc) (ps := ps) (ha := none) (hl := 0) (hc := 0) (hs := []) hnl hnl (by omega) (by decide)) ?_
              rintro _ _ _ ⟨rfl, rfl, rfl⟩
              refine L.norm qA qA ?_
              rw [if_pos hans, if_pos hans]
              refine L.notB rfl rfl ?_
              refine L.nil ?_
              refine T.eqv qP (show mp sm2 iK iK (hearF 63 [] []) = mp sm2 iK iK [] from rfl) ?_
              refine T.thenN ?_
              refine T.condF rfl (by rw [decide_eq_true hans]; rfl) ?_
              refine T.skip ?_
              refine T.thenN ?_
              refine T.seq ?_
              refine T.region ?_
              refine L.move rfl rfl ?_
              refine L.lenSl rfl Try.underlying22 rfl ?_
              refine L.move rfl rfl ?_
              refine L.nil ?_
              refine T.thenN ?_
              refine T.block ?_
              refine T.loop (fun K' D' M' μ => ∃ (i : Nat) (mi : List (Int × Int)), (i ≤ pn ∧ mi = incF mj (ps.take i)) ∧ K' = [(114, .int .i64 i)] ∧ D' = [] ∧ M' = [mp mb iK iK mi] ∧ μ = pn - i) (.cons (t := 1) rfl <| .cons (t := 9) rfl <| .cons (t := 10) rfl <| .cons (t := 11) rfl <| .cons (t := 14) rfl <| .cons (t := 15) rfl <| .cons (t := 18) rfl <| .cons (t := 19) rfl <| .cons (t := 63) rfl <| .cons (t := 69) rfl <| .cons (t := 70) rfl <| .cons (t := 71) rfl <| .cons (t := 112) rfl <| .cons (t := 113) rfl <| SubK.nil _) (⟨0, mj, ⟨by omega, rfl⟩, rfl, rfl, rfl, rfl⟩) (.cons (t := 114) rfl <| SubK.nil _) qD qS ?_
              rintro K1 D1 M1 m1 ⟨i, mi, ⟨hi, hli⟩, rfl, rfl, rfl, rfl⟩
              refine T.norm3 qA qA qA ?_
              refine T.seq ?_
              refine T.region ?_
              refine L.ltI rfl rfl rfl ?_
              refine L.nil ?_
              refine T.thenN ?_
              refine T.seq ?_
              refine T.cond rfl (fun h115 => ?_) (fun h115 => ?_)
              · try simp only [decide_eq_true_eq, decide_eq_false_iff_not, Bool.not_eq_true', Bool.not_eq_false', Bool.and_eq_true, Bool.or_eq_true] at h115
                refine T.skip ?_
                refine T.thenN ?_
                refine T.seq ?_
                refine T.block ?_
                refine T.seq ?_
                have hgp : (ps)[i]? = some (gd (ps) i) := gd_get (by omega)
                obtain ⟨p, hp⟩ : ∃ x, x = gd (ps) i := ⟨_, rfl⟩
                rw [← hp] at hgp
                refine T.region ?_
                refine L.idx (i := i) rfl Try.underlying22 sz3 rfl rfl qM (by first | rfl | omega | (simp; done)) qG (fun b116 o116 => ?_)
                refine L.load rfl sc3 rfl qC ?_
                refine L.assign rfl rfl ?_
                refine L.nil ?_
                refine T.thenN ?_
                have hcb : 0 ≤ cn mi p ∧ cn mi p ≤ 1000000 := by have h0 := cn_inc (n := p) (ps := ps.take i) (m := mj); rw [← hli] at h0; have h1 := hM.mb p; simp only [List.length_take] at h0; omega
                refine T.region ?_
                refine L.move rfl rfl ?_
                refine L.move rfl rfl ?_
                refine L.lookup1 rfl Try.underlying28 kt3 zv3 rfl rfl qM ?_
                refine L.known (t := 120) (u := .int .i64 (cn (mi) p)) rfl (by unfold cn; cases look (mi) p <;> rfl) ?_
                refine L.addN rfl rfl rfl (by omega) ?_
                refine L.mapUpdate (kenc := iK) (venc := iK) (l := mi) (k := p) (v := cn mi p + 1) Try.underlying28 kt3 rfl rfl rfl rfl qP ?_
                refine L.nil ?_
                refine T.blkN ?_
                refine T.thenN ?_
                refine T.region ?_
                refine L.addN rfl rfl rfl (by omega) ?_
                refine L.move rfl rfl ?_
                refine L.nil ?_
                refine T.thenN ?_
                exact T.back ⟨i + 1, put mi p (cn mi p + 1), ⟨by omega, by rw [incF_take hgp, ← hli]; rfl⟩, rfl, rfl, rfl, rfl⟩ qI (.cons (t := 114) rfl <| SubK.nil _) (.cons (t := 1) rfl <| .cons (t := 9) rfl <| .cons (t := 10) rfl <| .cons (t := 11) rfl <| .cons (t := 14) rfl <| .cons (t := 15) rfl <| .cons (t := 18) rfl <| .cons (t := 19) rfl <| .cons (t := 63) rfl <| .cons (t := 69) rfl <| .cons (t := 70) rfl <| .cons (t := 71) rfl <| .cons (t := 112) rfl <| .cons (t := 113) rfl <| SubK.nil _) qD qD qF
              · try simp only [decide_eq_true_eq, decide_eq_false_iff_not, Bool.not_eq_true', Bool.not_eq_false', Bool.and_eq_true, Bool.or_eq_true] at h115
                obtain rfl : i = pn := by omega
                rw [List.take_of_length_le (by omega)] at hli
                subst hli
                refine T.exit ?_
                refine T.thenX ?_
                refine T.thenX ?_
                refine T.blkX ?_
                refine T.blkN ?_
                refine T.thenN ?_
                refine T.region ?_
                refine L.addN rfl rfl rfl (by omega) ?_
                refine L.move rfl rfl ?_
                refine L.nil ?_
                refine T.thenN ?_
                exact T.back ⟨j + 1, _, incF mj ps, put aj n 1, ⟨by omega, hM.heard hAI hgn hq (by omega)⟩, rfl, rfl, rfl, rfl⟩ qI (.cons (t := 71) rfl <| .cons (t := 19) rfl <| SubK.nil _) (.cons (t := 1) rfl <| .cons (t := 9) rfl <| .cons (t := 10) rfl <| .cons (t := 11) rfl <| .cons (t := 14) rfl <| .cons (t := 15) rfl <| .cons (t := 18) rfl <| .cons (t := 63) rfl <| .cons (t := 69) rfl <| .cons (t := 70) rfl <| SubK.nil _) qD qD qF
          · try simp only [decide_eq_true_eq, decide_eq_false_iff_not, Bool.not_eq_true', Bool.not_eq_false', Bool.and_eq_true, Bool.or_eq_true] at h72
            obtain rfl : j = ln := by omega
            subst hol
            refine T.exit ?_
            refine T.thenX ?_
            refine T.thenX ?_
            refine T.blkX ?_
            refine T.thenN ?_
            refine T.region ?_
            refine L.move rfl rfl ?_
            refine L.addN rfl rfl rfl (by omega) ?_
            refine L.assign rfl rfl ?_
            refine L.nil ?_
            refine T.blkN ?_
            refine T.thenN ?_
            refine T.region ?_
            refine L.addN rfl rfl rfl (by omega) ?_
            refine L.move rfl rfl ?_
            refine L.nil ?_
            refine T.thenN ?_
            exact T.back ⟨t + 1, lj, mj, aj, ⟨by omega, GI.tick hnl ht hI hnd hS0 hno hS hA hM⟩, rfl, rfl, rfl, rfl⟩ qI (.cons (t := 63) rfl <| .cons (t := 18) rfl <| SubK.nil _) (.cons (t := 1) rfl <| .cons (t := 9) rfl <| .cons (t := 10) rfl <| .cons (t := 11) rfl <| .cons (t := 14) rfl <| .cons (t := 15) rfl <| SubK.nil _) qD qD qF
      · try simp only [decide_eq_true_eq, decide_eq_false_iff_not, Bool.not_eq_true', Bool.not_eq_false', Bool.and_eq_true, Bool.or_eq_true] at h64
        exact absurd hI.ends (by omega)
end Cv
