/-
  The walks: sorting names.
-/
import Derived.Test.YtfkpgkgjamaoaaaPb21
import Derived.Test.YtfkpgkgjamaoaaaProg
import Derived.KernelRfl
set_option linter.unusedVariables false
set_option linter.unusedSimpArgs false
set_option linter.unusedSectionVars false
set_option maxRecDepth 10000
namespace Cv
open Go Go.Proofs

def PdqS (a : Option Addr) (len cap g : Nat) (cf : ID32 → ID32 → Int) (ia ib lm : Nat) (xs : List ID32) : Prop := Spec Try.prog 41 [.slice a len cap, .int .i64 (ia : Int), .int .i64 (ib : Int), .int .i64 (lm : Int), fnV g []] [] [own 32 28 a len cap ((xs).map iC)] (fun v D' M' => ∃ ys, v = .tuple #[] ∧ (PI ia ib xs ys) ∧ (FinS cf ys ia ib) ∧ D' = [] ∧ M' = [own 32 28 a len cap ((ys).map iC)])
set_option maxHeartbeats 2000000 in
theorem pdqw_step {a : Option Addr} {g len cap : Nat} {cf : ID32 → ID32 → Int} {xs : List ID32} (hO : SWO cf) (hI : ∀ x : ID32, ¬ cf x x < 0) (hc : ∀ x y : ID32, Spec Try.prog g [.agg (iC x).toArray, .agg (iC y).toArray] [] [] (fun u D' M' => u = .int .i64 (cf x y) ∧ D' = [] ∧ M' = [])) {ia ib lm : Nat} (ih : ∀ (ia' ib' lm' : Nat) (xs' : List ID32), ib' - ia' < ib - ia → ia' ≤ ib' → ib' ≤ len → lm' ≤ 64 → SB cf xs' ia' ib' ia' ib' → PdqS a len cap g cf ia' ib' lm' xs') (hSB : SB cf xs ia ib ia ib) (hab : ia ≤ ib) (hib : ib ≤ len) (hb : len ≤ 60000) (hlm : lm ≤ 64) : Spec Try.prog 41 [.slice a len cap, .int .i64 (ia : Int), .int .i64 (ib : Int), .int .i64 (lm : Int), fnV g []] [] [own 32 28 a len cap ((xs).map iC)] (fun v D' M' => ∃ (ys : List ID32), v = .tuple #[] ∧ (PI ia ib xs ys) ∧ (FinS cf ys ia ib) ∧ D' = [] ∧ M' = [own 32 28 a len cap ((ys).map iC)]) := by
  refine Spec.intro (n := 148) Try.func41 rfl rfl (by decide) (Nat.le_of_ble_eq_true rfl) rfl (fun _ => qA) (fun _ => qA) ?_
  intro σ D M
  refine T.ownLen qM (fun hl hcc => ?_)
  rw [List.length_map] at hl
  refine T.seq ?_
  refine T.region ?_
  refine L.assign rfl rfl ?_
  refine L.nil ?_
  refine T.thenN ?_
  refine T.seq ?_
  refine T.region ?_
  refine L.assign rfl rfl ?_
  refine L.nil ?_
  refine T.thenN ?_
  refine T.block ?_
  refine T.loop (fun K' D' M' μ => ∃ (x y l : Nat) (wb wp : Bool) (zs : List ID32), ((ia ≤ x ∧ x ≤ y ∧ y ≤ ib ∧ l ≤ 64) ∧ PI ia ib xs zs ∧ SB cf zs ia ib x y) ∧ K' = [(1, .int .i64 (x : Int)), (2, .int .i64 (y : Int)), (3, .int .i64 (l : Int)), (10, .bool wb), (11, .bool wp)] ∧ D' = [] ∧ M' = [own 32 28 a len cap ((zs).map iC)] ∧ μ = y - x) (.cons (t := 0) rfl <| .cons (t := 4) rfl <| SubK.nil _) (⟨ia, ib, lm, true, true, xs, ⟨by omega, .refl _ _ _, hSB⟩, rfl, rfl, rfl, rfl⟩) (.cons (t := 1) rfl <| .cons (t := 2) rfl <| .cons (t := 3) rfl <| .cons (t := 10) rfl <| .cons (t := 11) rfl <| SubK.nil _) qD qS ?_
  rintro K1 D1 M1 m1 ⟨x, y, l, wb, wp, zs, ⟨hr, hP, hS⟩, rfl, rfl, rfl, rfl⟩
  refine T.norm3 qA qA qA ?_
  have hzl := hP.len
  refine T.block ?_
  refine T.seq ?_
  refine T.region ?_
  refine L.move rfl rfl ?_
  refine L.move rfl rfl ?_
  refine L.subN rfl rfl rfl (by omega) ?_
  refine L.known (t := 23) (u := .int .i64 ((y - x : Nat) : Int)) rfl (congrArg (Value.int .i64) (by omega)) ?_
  refine L.assign rfl rfl ?_
  refine L.nil ?_
  refine T.thenN ?_
  refine T.seq ?_
  refine T.seq ?_
  refine T.region ?_
  refine L.move rfl rfl ?_
  refine L.leI rfl rfl rfl ?_
  refine L.nil ?_
  refine T.thenN ?_
  refine T.cond rfl (fun h25 => ?_) (fun h25 => ?_)
  · try simp only [decide_eq_true_eq, decide_eq_false_iff_not, Bool.not_eq_true', Bool.not_eq_false', Bool.and_eq_true, Bool.or_eq_true] at h25
    refine T.seq ?_
    refine T.region ?_
    refine L.move rfl rfl ?_
    refine L.move rfl rfl ?_
    refine L.move rfl rfl ?_
    refine L.move rfl rfl ?_
    refine L.call rfl (evs.cons rfl <| evs.cons rfl <| evs.cons rfl <| evs.cons rfl <| evs.nil) qD qS (insw_spec (a := a) hO hI hc (xs := zs) (ia := x) (ib := y) (by omega) (by omega) (by omega)) ?_
    rintro _ _ _ ⟨ys, rfl, hPi, hSi, rfl, rfl⟩
    refine L.norm qA qA ?_
    refine L.nil ?_
    refine T.thenN ?_
    refine T.ret ?_
    refine T.thenR ?_
    refine T.blkR ?_
    refine T.thenR ?_
    refine T.blkR ?_
    exact T.retN (by simp) rfl ⟨ys, rfl, hP.trans (hPi.wide (by omega) (by omega)), (hS.pi hPi (by omega) (by omega)).fin hSi, rfl, rfl⟩ qD qF
  · try simp only [decide_eq_true_eq, decide_eq_false_iff_not, Bool.not_eq_true', Bool.not_eq_false', Bool.and_eq_true, Bool.or_eq_true] at h25
    refine T.ownNe qM (by omega) (fun pb po ha => ?_)
    subst ha
    refine T.skip ?_
    refine T.thenN ?_
    refine T.seq ?_
    refine T.seq ?_
    refine T.region ?_
    refine L.move rfl rfl ?_
    refine L.eqI rfl rfl rfl ?_
    refine L.nil ?_
    refine T.thenN ?_
    refine T.cond rfl (fun h32 => ?_) (fun h32 => ?_)
    · try simp only [decide_eq_true_eq, decide_eq_false_iff_not, Bool.not_eq_true', Bool.not_eq_false', Bool.and_eq_true, Bool.or_eq_true] at h32
      refine T.seq ?_
      refine T.region ?_
      refine L.move rfl rfl ?_
      refine L.move rfl rfl ?_
      refine L.move rfl rfl ?_
      refine L.move rfl rfl ?_
      refine L.call rfl (evs.cons rfl <| evs.cons rfl <| evs.cons rfl <| evs.cons rfl <| evs.nil) qD qS (heap_spec hO hI hc (xs := zs) (ia := x) (ib := y) (by omega) (by omega) (by omega)) ?_
      rintro _ _ _ ⟨ys, rfl, hPi, hSi, rfl, rfl⟩
      refine L.norm qA qA ?_
      refine L.nil ?_
      refine T.thenN ?_
      refine T.ret ?_
      refine T.thenR ?_
      refine T.blkR ?_
      refine T.thenR ?_
      refine T.blkR ?_
      exact T.retN (by simp) rfl ⟨ys, rfl, hP.trans (hPi.wide (by omega) (by omega)), (hS.pi hPi (by omega) (by omega)).fin hSi, rfl, rfl⟩ qD qF
    · try simp only [decide_eq_true_eq, decide_eq_false_iff_not, Bool.not_eq_true', Bool.not_eq_false', Bool.and_eq_true, Bool.or_eq_true] at h32
      have hl0 : l ≠ 0 := by omega
      refine T.skip ?_
      refine T.thenN ?_
      refine T.seq ?_
      refine T.seq ?_
      refine T.region ?_
      refine L.move rfl rfl ?_
      refine L.notB rfl rfl ?_
      refine L.nil ?_
      refine T.thenN ?_
      refine T.cutC (fun K' D' M' => ∃ (l2 : Nat) (ws1 : List ID32), (l2 ≤ 64 ∧ PI x y zs ws1) ∧ K' = [(3, .int .i64 (l2 : Int))] ∧ D' = [] ∧ M' = [own 32 28 (some ⟨pb, po, none⟩) len cap ((ws1).map iC)]) (M0 := [own 32 28 (some ⟨pb, po, none⟩) len cap ((zs).map iC)]) (.cons (t := 0) rfl <| .cons (t := 1) rfl <| .cons (t := 2) rfl <| .cons (t := 4) rfl <| .cons (t := 10) rfl <| .cons (t := 11) rfl <| .cons (t := 12) rfl <| SubK.nil _) qS ?_ ?_
      · skip
        refine T.cond rfl (fun h39 => ?_) (fun h39 => ?_)
        · try simp only [decide_eq_true_eq, decide_eq_false_iff_not, Bool.not_eq_true', Bool.not_eq_false', Bool.and_eq_true, Bool.or_eq_true] at h39
          refine T.seq ?_
          refine T.region ?_
          refine L.move rfl rfl ?_
          refine L.move rfl rfl ?_
          refine L.move rfl rfl ?_
          refine L.move rfl rfl ?_
          refine L.call rfl (evs.cons rfl <| evs.cons rfl <| evs.cons rfl <| evs.cons rfl <| evs.nil) qD qS (brk_spec hO hI hc (xs := zs) (ia := x) (ib := y) (by omega) (by omega) (by omega)) ?_
          rintro _ _ _ ⟨ys, rfl, hPi, rfl, rfl⟩
          refine L.norm qA qA ?_
          refine L.nil ?_
          refine T.thenN ?_
          refine T.region ?_
          refine L.move rfl rfl ?_
          refine L.subN rfl rfl rfl (by omega) ?_
          refine L.known (t := 46) (u := .int .i64 ((l - 1 : Nat) : Int)) rfl (congrArg (Value.int .i64) (by omega)) ?_
          refine L.assign rfl rfl ?_
          refine L.nil ?_
          refine T.thenN ?_
          exact T.toJoin ⟨l - 1, ys, ⟨by omega, hPi⟩, rfl, rfl, rfl⟩ (.cons (t := 3) rfl <| SubK.nil _) (.cons (t := 0) rfl <| .cons (t := 1) rfl <| .cons (t := 2) rfl <| .cons (t := 4) rfl <| .cons (t := 10) rfl <| .cons (t := 11) rfl <| .cons (t := 12) rfl <| SubK.nil _) qD qD qF
        · try simp only [decide_eq_true_eq, decide_eq_false_iff_not, Bool.not_eq_true', Bool.not_eq_false', Bool.and_eq_true, Bool.or_eq_true] at h39
          refine T.skip ?_
          refine T.thenN ?_
          exact T.toJoin ⟨l, zs, ⟨by omega, .refl _ _ _⟩, rfl, rfl, rfl⟩ (.cons (t := 3) rfl <| SubK.nil _) (.cons (t := 0) rfl <| .cons (t := 1) rfl <| .cons (t := 2) rfl <| .cons (t := 4) rfl <| .cons (t := 10) rfl <| .cons (t := 11) rfl <| .cons (t := 12) rfl <| SubK.nil _) qD qD qF
      rintro _ _ _ ⟨l2, ws1, ⟨hl2, hP1⟩, rfl, rfl, rfl⟩
      refine T.norm3 qA qA qA ?_
      have hz1 := hP1.len
      refine T.thenN ?_
      refine T.seq ?_
      refine T.region ?_
      refine L.move rfl rfl ?_
      refine L.move rfl rfl ?_
      refine L.move rfl rfl ?_
      refine L.move rfl rfl ?_
      refine L.call rfl (evs.cons rfl <| evs.cons rfl <| evs.cons rfl <| evs.cons rfl <| evs.nil) qD qS (pivot_spec hO hI hc (xs := ws1) (ia := x) (ib := y) (by omega) (by omega) (by omega)) ?_
      rintro _ _ _ ⟨pv, ht, rfl, hpv, rfl, rfl⟩
      refine L.norm qA qA ?_
      refine L.move rfl rfl ?_
      refine L.extract rfl rfl rfl ?_
      refine L.extract rfl rfl rfl ?_
      refine L.assign rfl rfl ?_
      refine L.assign rfl rfl ?_
      refine L.nil ?_
      refine T.thenN ?_
      refine T.seq ?_
      refine T.seq ?_
      refine T.region ?_
      refine L.move rfl rfl ?_
      refine L.eqI rfl rfl rfl ?_
      refine L.nil ?_
      refine T.thenN ?_
      refine T.cutC (fun K' D' M' => ∃ (pv2 : Nat) (ht2 : Int) (ws2 : List ID32), ((x ≤ pv2 ∧ pv2 < y) ∧ PI x y ws1 ws2) ∧ K' = [(13, .int .i64 (pv2 : Int)), (14, .int .i64 ht2)] ∧ D' = [] ∧ M' = [own 32 28 (some ⟨pb, po, none⟩) len cap ((ws2).map iC)]) (M0 := [own 32 28 (some ⟨pb, po, none⟩) len cap ((ws1).map iC)]) (.cons (t := 0) rfl <| .cons (t := 1) rfl <| .cons (t := 2) rfl <| .cons (t := 3) rfl <| .cons (t := 4) rfl <| .cons (t := 10) rfl <| .cons (t := 11) rfl <| .cons (t := 12) rfl <| SubK.nil _) qS ?_ ?_
      · skip
        refine T.cond rfl (fun h56 => ?_) (fun h56 => ?_)
        · try simp only [decide_eq_true_eq, decide_eq_false_iff_not, Bool.not_eq_true', Bool.not_eq_false', Bool.and_eq_true, Bool.or_eq_true] at h56
          refine T.seq ?_
          refine T.region ?_
          refine L.move rfl rfl ?_
          refine L.move rfl rfl ?_
          refine L.move rfl rfl ?_
          refine L.move rfl rfl ?_
          refine L.call rfl (evs.cons rfl <| evs.cons rfl <| evs.cons rfl <| evs.cons rfl <| evs.nil) qD qS (rev_spec hO hI hc (xs := ws1) (ia := x) (ib := y) (by omega) (by omega) (by omega)) ?_
          rintro _ _ _ ⟨ys, rfl, hPi, rfl, rfl⟩
          refine L.norm qA qA ?_
          refine L.nil ?_
          refine T.thenN ?_
          refine T.seq ?_
          refine T.region ?_
          refine L.move rfl rfl ?_
          refine L.subN rfl rfl rfl (by omega) ?_
          refine L.move rfl rfl ?_
          refine L.move rfl rfl ?_
          refine L.subN rfl rfl rfl (by omega) ?_
          refine L.subN rfl rfl rfl (by omega) ?_
          refine L.known (t := 67) (u := .int .i64 ((y - 1 - (pv - x) : Nat) : Int)) rfl (congrArg (Value.int .i64) (by omega)) ?_
          refine L.assign rfl rfl ?_
          refine L.nil ?_
          refine T.thenN ?_
          refine T.region ?_
          refine L.assign rfl rfl ?_
          refine L.nil ?_
          refine T.thenN ?_
          exact T.toJoin ⟨y - 1 - (pv - x), _, ys, ⟨by omega, hPi⟩, rfl, rfl, rfl⟩ (.cons (t := 13) rfl <| .cons (t := 14) rfl <| SubK.nil _) (.cons (t := 0) rfl <| .cons (t := 1) rfl <| .cons (t := 2) rfl <| .cons (t := 3) rfl <| .cons (t := 4) rfl <| .cons (t := 10) rfl <| .cons (t := 11) rfl <| .cons (t := 12) rfl <| SubK.nil _) qD qD qF
        · try simp only [decide_eq_true_eq, decide_eq_false_iff_not, Bool.not_eq_true', Bool.not_eq_false', Bool.and_eq_true, Bool.or_eq_true] at h56
          refine T.skip ?_
          refine T.thenN ?_
          exact T.toJoin ⟨pv, _, ws1, ⟨hpv, .refl _ _ _⟩, rfl, rfl, rfl⟩ (.cons (t := 13) rfl <| .cons (t := 14) rfl <| SubK.nil _) (.cons (t := 0) rfl <| .cons (t := 1) rfl <| .cons (t := 2) rfl <| .cons (t := 3) rfl <| .cons (t := 4) rfl <| .cons (t := 10) rfl <| .cons (t := 11) rfl <| .cons (t := 12) rfl <| SubK.nil _) qD qD qF
      rintro _ _ _ ⟨pv2, ht2, ws2, ⟨hpv2, hPa⟩, rfl, rfl, rfl⟩
      refine T.norm3 qA qA qA ?_
      have hS2 : SB cf ws2 ia ib x y := (hS.pi (hP1.trans hPa) (by omega) (by omega))
      have hP2a : PI ia ib xs ws2 := (hP.trans (hP1.wide (by omega) (by omega))).trans (hPa.wide (by omega) (by omega))
      have hz2 := hP2a.len
      refine T.thenN ?_
      refine T.seq ?_
      refine T.seq ?_
      refine T.cutC (fun K' D' M' => ∃ (w5 : Bool), K' = [(75, .bool w5)] ∧ D' = [] ∧ M' = []) (M0 := []) (.cons (t := 0) rfl <| .cons (t := 1) rfl <| .cons (t := 2) rfl <| .cons (t := 3) rfl <| .cons (t := 4) rfl <| .cons (t := 10) rfl <| .cons (t := 11) rfl <| .cons (t := 12) rfl <| .cons (t := 13) rfl <| SubK.nil _) qS ?_ ?_
      · skip
        rcases (show wb = false ∨ (wb = true ∧ wp = false) ∨ (wb = true ∧ wp = true) by cases wb <;> cases wp <;> simp) with hb1 | ⟨hb1, hb2⟩ | ⟨hb1, hb2⟩
        · skip
          refine T.region ?_
          refine L.move rfl rfl ?_
          refine L.move rfl rfl ?_
          refine L.known (t := 69) rfl (show _ = Value.bool false from congrArg Value.bool hb1) ?_
          refine L.guardF (dj := 69) (c := false) rfl rfl rfl rfl rfl (by decide) ?_
          refine L.pickF rfl rfl rfl ?_
          refine L.move rfl rfl ?_
          refine L.guardF (dj := 72) (c := false) rfl rfl rfl rfl rfl (by decide) ?_
          refine L.guardF (dj := 72) (c := false) rfl rfl rfl rfl rfl (by decide) ?_
          refine L.pickF rfl rfl rfl ?_
          refine L.nil ?_
          refine T.thenN ?_
          exact T.toJoin ⟨_, rfl, rfl, rfl⟩ (.cons (t := 75) rfl <| SubK.nil _) (.cons (t := 0) rfl <| .cons (t := 1) rfl <| .cons (t := 2) rfl <| .cons (t := 3) rfl <| .cons (t := 4) rfl <| .cons (t := 10) rfl <| .cons (t := 11) rfl <| .cons (t := 12) rfl <| .cons (t := 13) rfl <| SubK.nil _) qD qD qF
        · skip
          refine T.region ?_
          refine L.move rfl rfl ?_
          refine L.move rfl rfl ?_
          refine L.known (t := 69) rfl (show _ = Value.bool true from congrArg Value.bool hb1) ?_
          refine L.guardT (dj := 69) rfl rfl rfl ?_
          refine L.move rfl rfl ?_
          refine L.pickT rfl rfl rfl ?_
          refine L.move rfl rfl ?_
          refine L.known (t := 72) rfl (show _ = Value.bool false from congrArg Value.bool hb2) ?_
          refine L.guardF (dj := 72) (c := false) rfl rfl rfl rfl rfl (by decide) ?_
          refine L.guardF (dj := 72) (c := false) rfl rfl rfl rfl rfl (by decide) ?_
          refine L.pickF rfl rfl rfl ?_
          refine L.nil ?_
          refine T.thenN ?_
          exact T.toJoin ⟨_, rfl, rfl, rfl⟩ (.cons (t := 75) rfl <| SubK.nil _) (.cons (t := 0) rfl <| .cons (t := 1) rfl <| .cons (t := 2) rfl <| .cons (t := 3) rfl <| .cons (t := 4) rfl <| .cons (t := 10) rfl <| .cons (t := 11) rfl <| .cons (t := 12) rfl <| .cons (t := 13) rfl <| SubK.nil _) qD qD qF
        · skip
          refine T.region ?_
          refine L.move rfl rfl ?_
          refine L.move rfl rfl ?_
          refine L.known (t := 69) rfl (show _ = Value.bool true from congrArg Value.bool hb1) ?_
          refine L.guardT (dj := 69) rfl rfl rfl ?_
          refine L.move rfl rfl ?_
          refine L.pickT rfl rfl rfl ?_
          refine L.move rfl rfl ?_
          refine L.known (t := 72) rfl (show _ = Value.bool true from congrArg Value.bool hb2) ?_
          refine L.guardT (dj := 72) rfl rfl rfl ?_
          refine L.move rfl rfl ?_
          refine L.guardT (dj := 72) rfl rfl rfl ?_
          refine L.eqI rfl rfl rfl ?_
          refine L.pickT rfl rfl rfl ?_
          refine L.nil ?_
          refine T.thenN ?_
          exact T.toJoin ⟨_, rfl, rfl, rfl⟩ (.cons (t := 75) rfl <| SubK.nil _) (.cons (t := 0) rfl <| .cons (t := 1) rfl <| .cons (t := 2) rfl <| .cons (t := 3) rfl <| .cons (t := 4) rfl <| .cons (t := 10) rfl <| .cons (t := 11) rfl <| .cons (t := 12) rfl <| .cons (t := 13) rfl <| SubK.nil _) qD qD qF
      rintro _ _ _ ⟨w5, rfl, rfl, rfl⟩
      refine T.norm3 qA qA qA ?_
      refine T.thenN ?_
      refine T.cutC (fun K' D' M' => ∃ (us1 : List ID32), (PI x y ws2 us1) ∧ K' = [] ∧ D' = [] ∧ M' = [own 32 28 (some ⟨pb, po, none⟩) len cap ((us1).map iC)]) (M0 := [own 32 28 (some ⟨pb, po, none⟩) len cap ((ws2).map iC)]) (.cons (t := 0) rfl <| .cons (t := 1) rfl <| .cons (t := 2) rfl <| .cons (t := 3) rfl <| .cons (t := 4) rfl <| .cons (t := 10) rfl <| .cons (t := 11) rfl <| .cons (t := 12) rfl <| .cons (t := 13) rfl <| SubK.nil _) qS ?_ ?_
      · skip
        refine T.cond rfl (fun h75 => ?_) (fun h75 => ?_)
        · try simp only [decide_eq_true_eq, decide_eq_false_iff_not, Bool.not_eq_true', Bool.not_eq_false', Bool.and_eq_true, Bool.or_eq_true] at h75
          refine T.seq ?_
          refine T.region ?_
          refine L.move rfl rfl ?_
          refine L.move rfl rfl ?_
          refine L.move rfl rfl ?_
          refine L.move rfl rfl ?_
          refine L.call rfl (evs.cons rfl <| evs.cons rfl <| evs.cons rfl <| evs.cons rfl <| evs.nil) qD qS (part_spec hO hI hc (xs := ws2) (ia := x) (ib := y) (hS2.here (by omega) (by omega)) (by omega) (by omega) (by omega)) ?_
          rintro _ _ _ ⟨ys, ok, rfl, hPi, hok, rfl, rfl⟩
          refine L.norm qA qA ?_
          refine L.nil ?_
          refine T.thenN ?_
          refine T.cond rfl (fun h80 => ?_) (fun h80 => ?_)
          · try simp only [decide_eq_true_eq, decide_eq_false_iff_not, Bool.not_eq_true', Bool.not_eq_false', Bool.and_eq_true, Bool.or_eq_true] at h80
            refine T.ret ?_
            refine T.thenR ?_
            refine T.thenR ?_
            refine T.blkR ?_
            refine T.thenR ?_
            refine T.blkR ?_
            exact T.retN (by simp) rfl ⟨ys, rfl, hP2a.trans (hPi.wide (by omega) (by omega)), (hS2.pi hPi (by omega) (by omega)).fin (hok h80), rfl, rfl⟩ qD qF
          · try simp only [decide_eq_true_eq, decide_eq_false_iff_not, Bool.not_eq_true', Bool.not_eq_false', Bool.and_eq_true, Bool.or_eq_true] at h80
            refine T.skip ?_
            refine T.thenN ?_
            exact T.toJoin ⟨ys, hPi, rfl, rfl, rfl⟩ (SubK.nil _) (.cons (t := 0) rfl <| .cons (t := 1) rfl <| .cons (t := 2) rfl <| .cons (t := 3) rfl <| .cons (t := 4) rfl <| .cons (t := 10) rfl <| .cons (t := 11) rfl <| .cons (t := 12) rfl <| .cons (t := 13) rfl <| SubK.nil _) qD qD qF
        · try simp only [decide_eq_true_eq, decide_eq_false_iff_not, Bool.not_eq_true', Bool.not_eq_false', Bool.and_eq_true, Bool.or_eq_true] at h75
          refine T.skip ?_
          refine T.thenN ?_
          exact T.toJoin ⟨ws2, (.refl _ _ _), rfl, rfl, rfl⟩ (SubK.nil _) (.cons (t := 0) rfl <| .cons (t := 1) rfl <| .cons (t := 2) rfl <| .cons (t := 3) rfl <| .cons (t := 4) rfl <| .cons (t := 10) rfl <| .cons (t := 11) rfl <| .cons (t := 12) rfl <| .cons (t := 13) rfl <| SubK.nil _) qD qD qF
      rintro _ _ _ ⟨us1, hPb, rfl, rfl, rfl⟩
      refine T.norm3 qA qA qA ?_
      have hS3 : SB cf us1 ia ib x y := hS2.pi hPb (by omega) (by omega)
      have hP2 : PI ia ib xs us1 := hP2a.trans (hPb.wide (by omega) (by omega))
      have hz3 := hP2.len
      refine T.thenN ?_
      refine T.seq ?_
      refine T.seq ?_
      refine T.cutC (fun K' D' M' => ∃ (w : Bool), (w = true → 0 < x ∧ ¬ cf (gd us1 (x - 1)) (gd us1 pv2) < 0) ∧ K' = [(97, .bool w)] ∧ D' = [] ∧ M' = [own 32 28 (some ⟨pb, po, none⟩) len cap ((us1).map iC)]) (M0 := [own 32 28 (some ⟨pb, po, none⟩) len cap ((us1).map iC)]) (.cons (t := 0) rfl <| .cons (t := 1) rfl <| .cons (t := 2) rfl <| .cons (t := 3) rfl <| .cons (t := 4) rfl <| .cons (t := 10) rfl <| .cons (t := 11) rfl <| .cons (t := 12) rfl <| .cons (t := 13) rfl <| SubK.nil _) qS ?_ ?_
      · skip
        rcases Nat.eq_zero_or_pos x with hx0 | hx0
        · skip
          refine T.regionQ (by kernel_rfl) (by kernel_rfl) ?_
          refine L.move rfl rfl ?_
          refine L.gtI rfl rfl rfl ?_
          refine L.move rfl rfl ?_
          refine L.known (t := 83) rfl (show _ = Value.bool false from congrArg Value.bool (decide_eq_false (by omega))) ?_
          refine L.guardF (dj := 83) (c := false) rfl rfl rfl rfl rfl (by decide) ?_
          refine L.guardF (dj := 83) (c := false) rfl rfl rfl rfl rfl (by decide) ?_
          refine L.guardF (dj := 83) (c := false) rfl rfl rfl rfl rfl (by decide) ?_
          refine L.guardF (dj := 83) (c := false) rfl rfl rfl rfl rfl (by decide) ?_
          refine L.guardF (dj := 83) (c := false) rfl rfl rfl rfl rfl (by decide) ?_
          refine L.guardF (dj := 83) (c := false) rfl rfl rfl rfl rfl (by decide) ?_
          refine L.guardF (dj := 83) (c := false) rfl rfl rfl rfl rfl (by decide) ?_
          refine L.guardF (dj := 83) (c := false) rfl rfl rfl rfl rfl (by decide) ?_
          refine L.guardF (dj := 83) (c := false) rfl rfl rfl rfl rfl (by decide) ?_
          refine L.guardF (dj := 83) (c := false) rfl rfl rfl rfl rfl (by decide) ?_
          refine L.guardF (dj := 83) (c := false) rfl rfl rfl rfl rfl (by decide) ?_
          refine L.guardF (dj := 83) (c := false) rfl rfl rfl rfl rfl (by decide) ?_
          refine L.guardF (dj := 83) (c := false) rfl rfl rfl rfl rfl (by decide) ?_
          refine L.pickF rfl rfl rfl ?_
          refine L.nilQ ?_
          refine T.thenN ?_
          exact T.toJoin ⟨_, (fun e => (by cases e)), rfl, rfl, rfl⟩ (.cons (t := 97) rfl <| SubK.nil _) (.cons (t := 0) rfl <| .cons (t := 1) rfl <| .cons (t := 2) rfl <| .cons (t := 3) rfl <| .cons (t := 4) rfl <| .cons (t := 10) rfl <| .cons (t := 11) rfl <| .cons (t := 12) rfl <| .cons (t := 13) rfl <| SubK.nil _) qD qD qF
        · skip
          have hg0 : us1[x - 1]? = some (gd us1 (x - 1)) := gd_get (by omega)
          have hw0 := iC_len (gd us1 (x - 1))
          have hg1 : us1[pv2]? = some (gd us1 (pv2)) := gd_get (by omega)
          have hw1 := iC_len (gd us1 (pv2))
          refine T.regionQ (by kernel_rfl) (by kernel_rfl) ?_
          refine L.move rfl rfl ?_
          refine L.gtI rfl rfl rfl ?_
          refine L.move rfl rfl ?_
          refine L.known (t := 83) rfl (show _ = Value.bool true from congrArg Value.bool (decide_eq_true (by omega))) ?_
          refine L.guardT (dj := 83) rfl rfl rfl ?_
          refine L.move rfl rfl ?_
          refine L.guardT (dj := 83) rfl rfl rfl ?_
          refine L.move rfl rfl ?_
          refine L.guardT (dj := 83) rfl rfl rfl ?_
          refine L.move rfl rfl ?_
          refine L.guardT (dj := 83) rfl rfl rfl ?_
          refine L.subN rfl rfl rfl (by omega) ?_
          refine L.known (t := 87) (u := .int .i64 ((x - 1 : Nat) : Int)) rfl (congrArg (Value.int .i64) (by omega)) ?_
          refine L.guardT (dj := 83) rfl rfl rfl ?_
          refine L.idxG (i := x - 1) rfl Try.underlying34 sz28 rfl rfl (by first | rfl | omega | (simp; done)) qI ?_
          refine L.guardT (dj := 83) rfl rfl rfl ?_
          refine L.loadA rfl ag28 rfl (CellsN.ofOwn qM (map_get hg0) hw0) ?_
          refine L.guardT (dj := 83) rfl rfl rfl ?_
          refine L.move rfl rfl ?_
          refine L.guardT (dj := 83) rfl rfl rfl ?_
          refine L.move rfl rfl ?_
          refine L.guardT (dj := 83) rfl rfl rfl ?_
          refine L.idxG (i := pv2) rfl Try.underlying34 sz28 rfl rfl (by first | rfl | omega | (simp; done)) qI ?_
          refine L.guardT (dj := 83) rfl rfl rfl ?_
          refine L.loadA rfl ag28 rfl (CellsN.ofOwn qM (map_get hg1) hw1) ?_
          refine L.guardT (dj := 83) rfl rfl rfl ?_
          refine L.callVF rfl rfl (evs.cons rfl <| evs.cons rfl <| evs.nil) qD qS (hc (gd us1 (x - 1)) (gd us1 pv2)) (by rintro u D1 M1 ⟨rfl, rfl, rfl⟩; exact ⟨rfl, _, qA, qF⟩) ?_
          refine L.guardT (dj := 83) rfl rfl rfl ?_
          refine L.ltI rfl rfl rfl ?_
          refine L.guardT (dj := 83) rfl rfl rfl ?_
          refine L.notB rfl rfl ?_
          refine L.pickT rfl rfl rfl ?_
          refine L.nilQ ?_
          refine T.thenN ?_
          exact T.toJoin ⟨_, (fun e => ⟨hx0, by simpa using e⟩), rfl, rfl, rfl⟩ (.cons (t := 97) rfl <| SubK.nil _) (.cons (t := 0) rfl <| .cons (t := 1) rfl <| .cons (t := 2) rfl <| .cons (t := 3) rfl <| .cons (t := 4) rfl <| .cons (t := 10) rfl <| .cons (t := 11) rfl <| .cons (t := 12) rfl <| .cons (t := 13) rfl <| SubK.nil _) qD qD qF
      rintro _ _ _ ⟨w, hw0, rfl, rfl, rfl⟩
      refine T.norm3 qA qA qA ?_
      refine T.thenN ?_
      refine T.cond rfl (fun h97 => ?_) (fun h97 => ?_)
      · try simp only [decide_eq_true_eq, decide_eq_false_iff_not, Bool.not_eq_true', Bool.not_eq_false', Bool.and_eq_true, Bool.or_eq_true] at h97
        have hw := hw0 h97
        have hw1 := hw.1
        refine T.seq ?_
        refine T.region ?_
        refine L.move rfl rfl ?_
        refine L.move rfl rfl ?_
        refine L.move rfl rfl ?_
        refine L.move rfl rfl ?_
        refine L.move rfl rfl ?_
        refine L.call rfl (evs.cons rfl <| evs.cons rfl <| evs.cons rfl <| evs.cons rfl <| evs.cons rfl <| evs.nil) qD qS (parte_spec hO hI hc (xs := us1) (ia := x) (ib := y) (pv := pv2) (by omega) (by omega) (by omega)) ?_
        rintro _ _ _ ⟨us, mid, rfl, hPe, hme, hee, hk1, hk2, rfl, rfl⟩
        refine L.norm qA qA ?_
        have hSe : SB cf us ia ib mid y := (hS3.pi hPe (by omega) (by omega)).equal hO (by omega) (by omega) hme (by omega) (by rw [hPe.out (x - 1) (by omega), hee]; exact hw.2) hk1 hk2
        refine L.assign rfl rfl ?_
        refine L.nil ?_
        refine T.thenN ?_
        refine T.seq ?_
        refine T.region ?_
        refine L.move rfl rfl ?_
        refine L.assign rfl rfl ?_
        refine L.nil ?_
        refine T.thenN ?_
        refine T.exit ?_
        refine T.thenX ?_
        refine T.blkX ?_
        refine T.thenN ?_
        exact T.back ⟨mid, y, l2, wb, wp, us, ⟨by omega, hP2.trans (hPe.wide (by omega) (by omega)), hSe⟩, rfl, rfl, rfl, rfl⟩ qI (.cons (t := 1) rfl <| .cons (t := 2) rfl <| .cons (t := 3) rfl <| .cons (t := 10) rfl <| .cons (t := 11) rfl <| SubK.nil _) (.cons (t := 0) rfl <| .cons (t := 4) rfl <| SubK.nil _) qD qD qF
      · try simp only [decide_eq_true_eq, decide_eq_false_iff_not, Bool.not_eq_true', Bool.not_eq_false', Bool.and_eq_true, Bool.or_eq_true] at h97
        refine T.skip ?_
        refine T.thenN ?_
        refine T.seq ?_
        refine T.region ?_
        refine L.move rfl rfl ?_
        refine L.move rfl rfl ?_
        refine L.move rfl rfl ?_
        refine L.move rfl rfl ?_
        refine L.move rfl rfl ?_
        refine L.call rfl (evs.cons rfl <| evs.cons rfl <| evs.cons rfl <| evs.cons rfl <| evs.cons rfl <| evs.nil) qD qS (parti_spec hO hI hc (xs := us1) (ia := x) (ib := y) (pv := pv2) (by omega) (by omega) (by omega)) ?_
        rintro _ _ _ ⟨us, mid, wp2, rfl, hPp, hm, hPt, rfl, rfl⟩
        refine L.norm qA qA ?_
        have hSp : SB cf us ia ib x y := hS3.pi hPp (by omega) (by omega)
        have hPre := hPt.pre hO hSp (by omega) (by omega) hm
        refine L.move rfl rfl ?_
        refine L.extract rfl rfl rfl ?_
        refine L.extract rfl rfl rfl ?_
        refine L.assign rfl rfl ?_
        refine L.assign rfl rfl ?_
        refine L.nil ?_
        refine T.thenN ?_
        refine T.seq ?_
        refine T.region ?_
        refine L.move rfl rfl ?_
        refine L.assign rfl rfl ?_
        refine L.nil ?_
        refine T.thenN ?_
        refine T.seq ?_
        refine T.region ?_
        refine L.move rfl rfl ?_
        refine L.move rfl rfl ?_
        refine L.subN rfl rfl rfl (by omega) ?_
        refine L.known (t := 117) (u := .int .i64 ((mid - x : Nat) : Int)) rfl (congrArg (Value.int .i64) (by omega)) ?_
        refine L.move rfl rfl ?_
        refine L.move rfl rfl ?_
        refine L.subN rfl rfl rfl (by omega) ?_
        refine L.known (t := 120) (u := .int .i64 ((y - mid : Nat) : Int)) rfl (congrArg (Value.int .i64) (by omega)) ?_
        refine L.assign rfl rfl ?_
        refine L.assign rfl rfl ?_
        refine L.nil ?_
        refine T.thenN ?_
        refine T.seq ?_
        refine T.region ?_
        refine L.move rfl rfl ?_
        refine L.quoN rfl rfl rfl qI ?_
        refine L.assign rfl rfl ?_
        refine L.nil ?_
        refine T.thenN ?_
        refine T.seq ?_
        refine T.region ?_
        refine L.move rfl rfl ?_
        refine L.move rfl rfl ?_
        refine L.ltI rfl rfl rfl ?_
        refine L.nil ?_
        refine T.thenN ?_
        refine T.cond rfl (fun h125 => ?_) (fun h125 => ?_)
        · try simp only [decide_eq_true_eq, decide_eq_false_iff_not, Bool.not_eq_true', Bool.not_eq_false', Bool.and_eq_true, Bool.or_eq_true] at h125
          refine T.seq ?_
          refine T.region ?_
          refine L.move rfl rfl ?_
          refine L.move rfl rfl ?_
          refine L.geI rfl rfl rfl ?_
          refine L.assign rfl rfl ?_
          refine L.nil ?_
          refine T.thenN ?_
          refine T.seq ?_
          refine T.region ?_
          refine L.move rfl rfl ?_
          refine L.move rfl rfl ?_
          refine L.move rfl rfl ?_
          refine L.move rfl rfl ?_
          refine L.move rfl rfl ?_
          refine L.call rfl (evs.cons rfl <| evs.cons rfl <| evs.cons rfl <| evs.cons rfl <| evs.cons rfl <| evs.nil) qD qS (ih x mid l2 us (by omega) (by omega) (by omega) (by omega) hPre.1) ?_
          rintro _ _ _ ⟨ws, rfl, hPr, hFr, rfl, rfl⟩
          refine L.norm qA qA ?_
          refine L.nil ?_
          refine T.thenN ?_
          refine T.region ?_
          refine L.move rfl rfl ?_
          refine L.addN rfl rfl rfl (by omega) ?_
          refine L.assign rfl rfl ?_
          refine L.nil ?_
          refine T.blkN ?_
          refine T.thenN ?_
          exact T.back ⟨mid + 1, y, l2, _, _, ws, ⟨by omega, (hP2.trans (hPp.wide (by omega) (by omega))).trans (hPr.wide (by omega) (by omega)), hPt.left hO hSp (by omega) (by omega) hm hPr hFr⟩, rfl, rfl, rfl, rfl⟩ qI (.cons (t := 1) rfl <| .cons (t := 2) rfl <| .cons (t := 3) rfl <| .cons (t := 10) rfl <| .cons (t := 11) rfl <| SubK.nil _) (.cons (t := 0) rfl <| .cons (t := 4) rfl <| SubK.nil _) qD qD qF
        · try simp only [decide_eq_true_eq, decide_eq_false_iff_not, Bool.not_eq_true', Bool.not_eq_false', Bool.and_eq_true, Bool.or_eq_true] at h125
          refine T.seq ?_
          refine T.region ?_
          refine L.move rfl rfl ?_
          refine L.move rfl rfl ?_
          refine L.geI rfl rfl rfl ?_
          refine L.assign rfl rfl ?_
          refine L.nil ?_
          refine T.thenN ?_
          refine T.seq ?_
          refine T.region ?_
          refine L.move rfl rfl ?_
          refine L.move rfl rfl ?_
          refine L.addN rfl rfl rfl (by omega) ?_
          refine L.known (t := 142) (u := .int .i64 ((mid + 1 : Nat) : Int)) rfl (congrArg (Value.int .i64) (by omega)) ?_
          refine L.move rfl rfl ?_
          refine L.move rfl rfl ?_
          refine L.move rfl rfl ?_
          refine L.call rfl (evs.cons rfl <| evs.cons rfl <| evs.cons rfl <| evs.cons rfl <| evs.cons rfl <| evs.nil) qD qS (ih (mid + 1) y l2 us (by omega) (by omega) (by omega) (by omega) hPre.2) ?_
          rintro _ _ _ ⟨ws, rfl, hPr, hFr, rfl, rfl⟩
          refine L.norm qA qA ?_
          refine L.nil ?_
          refine T.thenN ?_
          refine T.region ?_
          refine L.move rfl rfl ?_
          refine L.assign rfl rfl ?_
          refine L.nil ?_
          refine T.blkN ?_
          refine T.thenN ?_
          exact T.back ⟨x, mid, l2, _, _, ws, ⟨by omega, (hP2.trans (hPp.wide (by omega) (by omega))).trans (hPr.wide (by omega) (by omega)), hPt.right hO hSp (by omega) (by omega) hm hPr hFr⟩, rfl, rfl, rfl, rfl⟩ qI (.cons (t := 1) rfl <| .cons (t := 2) rfl <| .cons (t := 3) rfl <| .cons (t := 10) rfl <| .cons (t := 11) rfl <| SubK.nil _) (.cons (t := 0) rfl <| .cons (t := 4) rfl <| SubK.nil _) qD qD qF
theorem pdqw_spec {a : Option Addr} {g len cap : Nat} {cf : ID32 → ID32 → Int} (hO : SWO cf) (hI : ∀ x : ID32, ¬ cf x x < 0) (hc : ∀ x y : ID32, Spec Try.prog g [.agg (iC x).toArray, .agg (iC y).toArray] [] [] (fun u D' M' => u = .int .i64 (cf x y) ∧ D' = [] ∧ M' = [])) (hb : len ≤ 60000) : ∀ (n ia ib lm : Nat) (xs : List ID32), ib - ia = n → ia ≤ ib → ib ≤ len → lm ≤ 64 → SB cf xs ia ib ia ib → PdqS a len cap g cf ia ib lm xs := by
  intro n
  induction n using Nat.strongRecOn with
  | _ n ih =>
    intro ia ib lm xs hn h1 h2 h3 h4
    exact pdqw_step hO hI hc (fun ia' ib' lm' xs' q1 q2 q3 q4 q5 => ih (ib' - ia') (by omega) ia' ib' lm' xs' rfl q2 q3 q4 q5) h4 h1 h2 hb h3
set_option maxHeartbeats 400000 in
theorem sortw_spec {a : Option Addr} {g len cap : Nat} {cf : ID32 → ID32 → Int} {xs : List ID32} (hO : SWO cf) (hI : ∀ x : ID32, ¬ cf x x < 0) (hc : ∀ x y : ID32, Spec Try.prog g [.agg (iC x).toArray, .agg (iC y).toArray] [] [] (fun u D' M' => u = .int .i64 (cf x y) ∧ D' = [] ∧ M' = [])) (hb : len ≤ 60000) : Spec Try.prog 34 [.slice a len cap, fnV g []] [] [own 32 28 a len cap ((xs).map iC)] (fun v D' M' => ∃ (ys : List ID32), v = .tuple #[] ∧ (ys.Perm xs) ∧ (SrtP cf ys 0 len) ∧ D' = [] ∧ M' = [own 32 28 a len cap ((ys).map iC)]) := by
  refine Spec.intro (n := 14) Try.func34 rfl rfl (by decide) (Nat.le_of_ble_eq_true rfl) rfl (fun _ => qA) (fun _ => qA) ?_
  intro σ D M
  refine T.seq ?_
  refine T.region ?_
  refine L.move rfl rfl ?_
  refine L.lenSl rfl Try.underlying34 rfl ?_
  refine L.assign rfl rfl ?_
  refine L.nil ?_
  refine T.thenN ?_
  refine T.region ?_
  refine L.move rfl rfl ?_
  refine L.move rfl rfl ?_
  refine L.move rfl rfl ?_
  refine L.convU rfl Try.underlying3 Try.underlying80 rfl qI ?_
  refine L.call rfl (evs.cons rfl <| evs.nil) qD qS (lenw_spec (n := len) (by omega)) ?_
  rintro _ _ _ ⟨k, rfl, hk, hk16, rfl, rfl⟩
  refine L.norm qA qA ?_
  refine L.move rfl rfl ?_
  refine L.call rfl (evs.cons rfl <| evs.cons rfl <| evs.cons rfl <| evs.cons rfl <| evs.cons rfl <| evs.nil) qD qS (pdqw_spec (a := a) hO hI hc hb (len - 0) 0 len k xs rfl (by omega) (by omega) (by omega) (fun p q h1 h2 h3 h4 => absurd ⟨Nat.zero_le _, h3⟩ h4)) ?_
  rintro _ _ _ ⟨ys, rfl, hP, hF, rfl, rfl⟩
  refine L.norm qA qA ?_
  refine L.nil ?_
  exact T.retN (by simp) rfl ⟨ys, rfl, hP.perm, fun p q _ h2 h3 => hF p q h2 (Nat.zero_le _) h3, rfl, rfl⟩ qD qF
end Cv
