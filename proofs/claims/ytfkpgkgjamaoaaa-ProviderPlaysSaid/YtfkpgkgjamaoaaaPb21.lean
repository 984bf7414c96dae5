/-
  The walks: sorting names: parting.
-/
import Derived.Test.YtfkpgkgjamaoaaaPa21
import Derived.Test.YtfkpgkgjamaoaaaProg
import Derived.KernelRfl
set_option linter.unusedVariables false
set_option linter.unusedSimpArgs false
set_option linter.unusedSectionVars false
set_option maxRecDepth 10000
namespace Cv
open Go Go.Proofs
theorem zv99 : ∀ w, (zeroValue 99).run Try.prog w = .ok (Value.int .u64 0) w := fun w => by kernel_rfl
theorem ze99 : Ze Try.prog 99 [Value.int .u64 0] := ⟨_, rfl, zv99⟩
set_option maxHeartbeats 400000 in
theorem brk_spec {g pb po len cap : Nat} {cf : ID32 → ID32 → Int} {xs : List ID32} (hO : SWO cf) (hI : ∀ x : ID32, ¬ cf x x < 0) (hc : ∀ x y : ID32, Spec Try.prog g [.agg (iC x).toArray, .agg (iC y).toArray] [] [] (fun u D' M' => u = .int .i64 (cf x y) ∧ D' = [] ∧ M' = [])) {ia ib : Nat} (h12 : ia + 12 < ib) (hib : ib ≤ len) (hb : len ≤ 60000) : Spec Try.prog 55 [.slice (some ⟨pb, po, none⟩) len cap, .int .i64 (ia : Int), .int .i64 (ib : Int), fnV g []] [] [own 32 28 (some ⟨pb, po, none⟩) len cap ((xs).map iC)] (fun v D' M' => ∃ (ys : List ID32), v = .tuple #[] ∧ (PI ia ib xs ys) ∧ D' = [] ∧ M' = [own 32 28 (some ⟨pb, po, none⟩) len cap ((ys).map iC)]) := by
  refine Spec.intro (n := 67) Try.func55 rfl rfl (by decide) (Nat.le_of_ble_eq_true rfl) rfl (fun _ => qA) (fun _ => qA) ?_
  intro σ D M
  refine T.ownLen qM (fun hl hcc => ?_)
  rw [List.length_map] at hl
  obtain ⟨ln, hL⟩ : ∃ ln, ln = ib - ia := ⟨_, rfl⟩
  refine T.seq ?_
  refine T.region ?_
  refine L.move rfl rfl ?_
  refine L.move rfl rfl ?_
  refine L.subN rfl rfl rfl (by omega) ?_
  refine L.known (t := 15) (u := .int .i64 ((ln : Nat) : Int)) rfl (congrArg (Value.int .i64) (by omega)) ?_
  refine L.assign rfl rfl ?_
  refine L.nil ?_
  refine T.thenN ?_
  refine T.seq ?_
  refine T.region ?_
  refine L.move rfl rfl ?_
  refine L.geI rfl rfl rfl ?_
  refine L.nil ?_
  refine T.thenN ?_
  refine T.condT rfl (decide_eq_true (by omega)) ?_
  refine T.seq ?_
  refine T.region ?_
  refine L.move rfl rfl ?_
  refine L.convU rfl Try.underlying3 Try.underlying99 rfl (by omega) ?_
  refine L.alloc rfl ze99 (fun b9 => ?_)
  refine L.store sc99 rfl rfl rfl qU qE ?_
  refine L.nil ?_
  refine T.thenN ?_
  refine T.seq ?_
  refine T.region ?_
  refine L.move rfl rfl ?_
  refine L.call rfl (evs.cons rfl <| evs.nil) qD qS (npow_spec (n := ln) (by omega)) ?_
  rintro _ _ _ ⟨k, rfl, hk, hk16, rfl, rfl⟩
  refine L.norm qA qA ?_
  have hk1 := hk.lt
  have hk2 := hk.le
  have hk3 := two_pow_le (k := k) (by omega)
  have hk4 : 1 ≤ 2 ^ k := Nat.one_le_two_pow
  refine L.assign rfl rfl ?_
  refine L.nil ?_
  refine T.thenN ?_
  refine T.seq ?_
  refine T.region ?_
  refine L.move rfl rfl ?_
  refine L.move rfl rfl ?_
  refine L.quoN rfl rfl rfl qI ?_
  refine L.mulN rfl rfl rfl (by omega) ?_
  refine L.addN rfl rfl rfl (by omega) ?_
  refine L.subN rfl rfl rfl (by omega) ?_
  refine L.known (t := 27) (u := .int .i64 ((ia + ln / 4 * 2 - 1 : Nat) : Int)) rfl (congrArg (Value.int .i64) (by omega)) ?_
  refine L.assign rfl rfl ?_
  refine L.nil ?_
  refine T.thenN ?_
  refine T.block ?_
  refine T.loop (fun K' D' M' μ => ∃ (i : Nat) (x0 : Int) (zs : List ID32), ((ia + ln / 4 * 2 - 1 ≤ i ∧ i ≤ ia + ln / 4 * 2 + 2) ∧ PI ia ib xs zs) ∧ K' = [(11, .int .i64 (i : Int))] ∧ D' = [] ∧ M' = [own 32 28 (some ⟨pb, po, none⟩) len cap ((zs).map iC), cl b9 99 [.int .u64 x0]] ∧ μ = ia + ln / 4 * 2 + 2 - i) (.cons (t := 0) rfl <| .cons (t := 1) rfl <| .cons (t := 8) rfl <| .cons (t := 9) rfl <| .cons (t := 10) rfl <| SubK.nil _) (⟨ia + ln / 4 * 2 - 1, _, xs, ⟨by omega, .refl _ _ _⟩, rfl, rfl, rfl, rfl⟩) (.cons (t := 11) rfl <| SubK.nil _) qD qS ?_
  rintro K1 D1 M1 m1 ⟨i, x0, zs, ⟨hi, hP⟩, rfl, rfl, rfl, rfl⟩
  refine T.norm3 qA qA qA ?_
  have hzl := hP.len
  refine T.seq ?_
  refine T.seq ?_
  refine T.region ?_
  refine L.move rfl rfl ?_
  refine L.move rfl rfl ?_
  refine L.move rfl rfl ?_
  refine L.quoN rfl rfl rfl qI ?_
  refine L.mulN rfl rfl rfl (by omega) ?_
  refine L.addN rfl rfl rfl (by omega) ?_
  refine L.addN rfl rfl rfl (by omega) ?_
  refine L.known (t := 34) (u := .int .i64 ((ia + ln / 4 * 2 + 1 : Nat) : Int)) rfl (congrArg (Value.int .i64) (by omega)) ?_
  refine L.leI rfl rfl rfl ?_
  refine L.nil ?_
  refine T.thenN ?_
  refine T.cond rfl (fun h35 => ?_) (fun h35 => ?_)
  · try simp only [decide_eq_true_eq, decide_eq_false_iff_not, Bool.not_eq_true', Bool.not_eq_false', Bool.and_eq_true, Bool.or_eq_true] at h35
    refine T.skip ?_
    refine T.thenN ?_
    refine T.seq ?_
    refine T.block ?_
    refine T.seq ?_
    refine T.region ?_
    refine L.call rfl (evs.cons rfl <| evs.nil) qD qS (xnext_spec (b := b9) (z := x0)) ?_
    rintro _ _ _ ⟨xr, rfl, rfl, rfl⟩
    refine L.norm qA qA ?_
    refine L.move rfl rfl ?_
    refine L.subU rfl rfl rfl (by omega) ?_
    refine L.known (t := 40) (u := .int .u64 ((2 ^ k - 1 : Nat) : Int)) rfl (congrArg (Value.int .u64) (by omega)) ?_
    refine L.andI rfl rfl rfl ?_
    have hand := bitsAnd_u64 xr (2 ^ k - 1) (by omega)
    obtain ⟨z, hz⟩ : ∃ z : Nat, bitsAnd .u64 xr ((2 ^ k - 1 : Nat) : Int) = (z : Int) := ⟨(bitsAnd .u64 xr ((2 ^ k - 1 : Nat) : Int)).toNat, by omega⟩
    rw [hz]
    rw [hz] at hand
    refine L.convN rfl Try.underlying80 Try.underlying3 rfl qI ?_
    refine L.assign rfl rfl ?_
    refine L.nil ?_
    refine T.thenN ?_
    refine T.seq ?_
    refine T.seq ?_
    refine T.region ?_
    refine L.move rfl rfl ?_
    refine L.move rfl rfl ?_
    refine L.geI rfl rfl rfl ?_
    refine L.nil ?_
    refine T.thenN ?_
    refine T.cutC (fun K' D' M' => ∃ (w : Nat), (w < ln) ∧ K' = [(12, .int .i64 (w : Int))] ∧ D' = [] ∧ M' = []) (M0 := []) (.cons (t := 0) rfl <| .cons (t := 1) rfl <| .cons (t := 8) rfl <| .cons (t := 9) rfl <| .cons (t := 10) rfl <| .cons (t := 11) rfl <| SubK.nil _) qS ?_ ?_
    · skip
      refine T.cond rfl (fun h45 => ?_) (fun h45 => ?_)
      · try simp only [decide_eq_true_eq, decide_eq_false_iff_not, Bool.not_eq_true', Bool.not_eq_false', Bool.and_eq_true, Bool.or_eq_true] at h45
        refine T.region ?_
        refine L.move rfl rfl ?_
        refine L.move rfl rfl ?_
        refine L.subN rfl rfl rfl (by omega) ?_
        refine L.known (t := 48) (u := .int .i64 ((z - ln : Nat) : Int)) rfl (congrArg (Value.int .i64) (by omega)) ?_
        refine L.assign rfl rfl ?_
        refine L.nil ?_
        refine T.thenN ?_
        exact T.toJoin ⟨z - ln, (by omega), rfl, rfl, rfl⟩ (.cons (t := 12) rfl <| SubK.nil _) (.cons (t := 0) rfl <| .cons (t := 1) rfl <| .cons (t := 8) rfl <| .cons (t := 9) rfl <| .cons (t := 10) rfl <| .cons (t := 11) rfl <| SubK.nil _) qD qD qF
      · try simp only [decide_eq_true_eq, decide_eq_false_iff_not, Bool.not_eq_true', Bool.not_eq_false', Bool.and_eq_true, Bool.or_eq_true] at h45
        refine T.skip ?_
        refine T.thenN ?_
        exact T.toJoin ⟨z, (by omega), rfl, rfl, rfl⟩ (.cons (t := 12) rfl <| SubK.nil _) (.cons (t := 0) rfl <| .cons (t := 1) rfl <| .cons (t := 8) rfl <| .cons (t := 9) rfl <| .cons (t := 10) rfl <| .cons (t := 11) rfl <| SubK.nil _) qD qD qF
    rintro _ _ _ ⟨w, hw, rfl, rfl, rfl⟩
    refine T.norm3 qA qA qA ?_
    refine T.thenN ?_
    have hg0 : zs[i]? = some (gd zs (i)) := gd_get (by omega)
    have hw0 := iC_len (gd zs (i))
    have hg1 : zs[ia + w]? = some (gd zs (ia + w)) := gd_get (by omega)
    have hw1 := iC_len (gd zs (ia + w))
    refine T.regionA (clsL [1, 1, 1, 1, 1, 1, 1, 1, 1, 1, 1, 0, 1, 1, 1, 0, 1, 2, 1, 2]) (by kernel_rfl) ?_
    refine A.takeP (i := 0) rfl rfl rfl rfl (by kernel_rfl) (by kernel_rfl) (by kernel_rfl) rfl qD ?_
    refine L.move rfl rfl ?_
    refine A.took ?_
    refine A.takeP (i := 1) rfl rfl rfl rfl (by kernel_rfl) (by kernel_rfl) (by kernel_rfl) rfl qD ?_
    refine L.move rfl rfl ?_
    refine A.took ?_
    refine A.takeP (i := 2) rfl rfl rfl rfl (by kernel_rfl) (by kernel_rfl) (by kernel_rfl) rfl qD ?_
    refine L.move rfl rfl ?_
    refine A.took ?_
    refine A.takeP (i := 3) rfl rfl rfl rfl (by kernel_rfl) (by kernel_rfl) (by kernel_rfl) rfl qD ?_
    refine L.move rfl rfl ?_
    refine A.took ?_
    refine A.takeP (i := 4) rfl rfl rfl rfl (by kernel_rfl) (by kernel_rfl) (by kernel_rfl) rfl qD ?_
    refine L.move rfl rfl ?_
    refine A.took ?_
    refine A.takeP (i := 5) rfl rfl rfl rfl (by kernel_rfl) (by kernel_rfl) (by kernel_rfl) rfl qD ?_
    refine L.addN rfl rfl rfl (by omega) ?_
    refine A.took ?_
    refine A.takeP (i := 6) rfl rfl rfl rfl (by kernel_rfl) (by kernel_rfl) (by kernel_rfl) rfl qD ?_
    refine L.move rfl rfl ?_
    refine A.took ?_
    refine A.takeP (i := 7) rfl rfl rfl rfl (by kernel_rfl) (by kernel_rfl) (by kernel_rfl) rfl qD ?_
    refine L.move rfl rfl ?_
    refine A.took ?_
    refine A.takeP (i := 8) rfl rfl rfl rfl (by kernel_rfl) (by kernel_rfl) (by kernel_rfl) rfl qD ?_
    refine L.move rfl rfl ?_
    refine A.took ?_
    refine A.takeP (i := 9) rfl rfl rfl rfl (by kernel_rfl) (by kernel_rfl) (by kernel_rfl) rfl qD ?_
    refine L.addN rfl rfl rfl (by omega) ?_
    refine A.took ?_
    refine A.takeP (i := 10) rfl rfl rfl rfl (by kernel_rfl) (by kernel_rfl) (by kernel_rfl) rfl qD ?_
    refine L.idxG (i := ia + w) rfl Try.underlying34 sz28 rfl rfl (by first | rfl | omega | (simp; done)) qI ?_
    refine A.took ?_
    refine A.takeP (i := 12) rfl rfl rfl rfl (by kernel_rfl) (by kernel_rfl) (by kernel_rfl) rfl qD ?_
    refine L.move rfl rfl ?_
    refine A.took ?_
    refine A.takeP (i := 13) rfl rfl rfl rfl (by kernel_rfl) (by kernel_rfl) (by kernel_rfl) rfl qD ?_
    refine L.move rfl rfl ?_
    refine A.took ?_
    refine A.takeP (i := 14) rfl rfl rfl rfl (by kernel_rfl) (by kernel_rfl) (by kernel_rfl) rfl qD ?_
    refine L.idxG (i := i) rfl Try.underlying34 sz28 rfl rfl (by first | rfl | omega | (simp; done)) qI ?_
    refine A.took ?_
    refine A.take (i := 11) rfl rfl rfl rfl (by kernel_rfl) (by kernel_rfl) (by kernel_rfl) (by kernel_rfl) rfl qD qF ?_
    refine L.loadA rfl ag28 rfl (CellsN.ofOwn qM (map_get hg1) hw1) ?_
    refine A.took ?_
    refine A.take (i := 15) rfl rfl rfl rfl (by kernel_rfl) (by kernel_rfl) (by kernel_rfl) (by kernel_rfl) rfl qD qF ?_
    refine L.loadA rfl ag28 rfl (CellsN.ofOwn qM (map_get hg0) hw0) ?_
    refine A.took ?_
    refine A.takeP (i := 16) rfl rfl rfl rfl (by kernel_rfl) (by kernel_rfl) (by kernel_rfl) rfl qD ?_
    refine L.idxG (i := i) rfl Try.underlying34 sz28 rfl rfl (by first | rfl | omega | (simp; done)) qI ?_
    refine A.took ?_
    refine A.branch (is := [17]) (by kernel_rfl) (by decide) (Each.cons rfl ?_ <| Each.nil) 
    refine L.storeOA (i) ag28 rfl (by first | rfl | omega | (simp; done)) rfl qL qO qP qI ?_
    refine A.backT rfl qD ?_
    refine A.takeP (i := 18) rfl rfl rfl rfl (by kernel_rfl) (by kernel_rfl) (by kernel_rfl) rfl qD ?_
    refine L.idxG (i := ia + w) rfl Try.underlying34 sz28 rfl rfl (by first | rfl | omega | (simp; done)) qI ?_
    refine A.took ?_
    refine A.branch (is := [19]) (by kernel_rfl) (by decide) (Each.cons rfl ?_ <| Each.nil) 
    refine L.storeOA (ia + w) ag28 rfl (by first | rfl | omega | (simp; done)) rfl qL qO qP qI ?_
    refine A.backT rfl qD ?_
    refine A.done (by kernel_rfl) ?_
    refine T.ownEq _ ((sw zs (i) (ia + w)).map iC) qP (by rw [sw, List.map_set, List.map_set]) ?_
    refine T.blkN ?_
    refine T.thenN ?_
    refine T.region ?_
    refine L.move rfl rfl ?_
    refine L.addN rfl rfl rfl (by omega) ?_
    refine L.assign rfl rfl ?_
    refine L.nil ?_
    refine T.thenN ?_
    exact T.back ⟨i + 1, _, sw zs i (ia + w), ⟨by omega, hP.trans (.sw (by omega) (by omega) (by omega) (by omega) (by omega))⟩, rfl, rfl, rfl, rfl⟩ qI (.cons (t := 11) rfl <| SubK.nil _) (.cons (t := 0) rfl <| .cons (t := 1) rfl <| .cons (t := 8) rfl <| .cons (t := 9) rfl <| .cons (t := 10) rfl <| SubK.nil _) qD qD qF
  · try simp only [decide_eq_true_eq, decide_eq_false_iff_not, Bool.not_eq_true', Bool.not_eq_false', Bool.and_eq_true, Bool.or_eq_true] at h35
    refine T.exit ?_
    refine T.thenX ?_
    refine T.thenX ?_
    refine T.blkX ?_
    exact T.retN (by simp) rfl ⟨zs, rfl, hP, rfl, rfl⟩ qD qF
set_option maxHeartbeats 400000 in
theorem part_spec {g pb po len cap : Nat} {cf : ID32 → ID32 → Int} {xs : List ID32} (hO : SWO cf) (hI : ∀ x : ID32, ¬ cf x x < 0) (hc : ∀ x y : ID32, Spec Try.prog g [.agg (iC x).toArray, .agg (iC y).toArray] [] [] (fun u D' M' => u = .int .i64 (cf x y) ∧ D' = [] ∧ M' = [])) {ia ib : Nat} (hSB : SB cf xs ia ib ia ib) (hab : ia < ib) (hib : ib ≤ len) (hb : len ≤ 60000) : Spec Try.prog 58 [.slice (some ⟨pb, po, none⟩) len cap, .int .i64 (ia : Int), .int .i64 (ib : Int), fnV g []] [] [own 32 28 (some ⟨pb, po, none⟩) len cap ((xs).map iC)] (fun v D' M' => ∃ (ys : List ID32) (ok : Bool), v = .bool ok ∧ (PI ia ib xs ys) ∧ (ok = true → SrtP cf ys ia ib) ∧ D' = [] ∧ M' = [own 32 28 (some ⟨pb, po, none⟩) len cap ((ys).map iC)]) := by
  refine Spec.intro (n := 141) Try.func58 rfl rfl (by decide) (Nat.le_of_ble_eq_true rfl) rfl (fun _ => qA) (fun _ => qA) ?_
  intro σ D M
  refine T.ownLen qM (fun hl hcc => ?_)
  rw [List.length_map] at hl
  have hpre : ∀ zs, PI ia ib xs zs → ∀ q, ia ≤ q → q < ib → 0 < ia → NL cf zs (ia - 1) q := fun zs hP q q1 q2 q3 => (hSB.pi hP (Nat.le_refl _) (Nat.le_refl _)) (ia - 1) q (by omega) q1 q2 (by omega)
  refine T.seq ?_
  refine T.region ?_
  refine L.assign rfl rfl ?_
  refine L.nil ?_
  refine T.thenN ?_
  refine T.seq ?_
  refine T.region ?_
  refine L.move rfl rfl ?_
  refine L.addN rfl rfl rfl (by omega) ?_
  refine L.known (t := 14) (u := .int .i64 ((ia + 1 : Nat) : Int)) rfl (congrArg (Value.int .i64) (by omega)) ?_
  refine L.assign rfl rfl ?_
  refine L.nil ?_
  refine T.thenN ?_
  refine T.seq ?_
  refine T.seq ?_
  refine T.region ?_
  refine L.assign rfl rfl ?_
  refine L.nil ?_
  refine T.thenN ?_
  refine T.block ?_
  refine T.loop (fun K' D' M' μ => ∃ (i c : Nat) (zs : List ID32), ((ia + 1 ≤ i ∧ i ≤ ib ∧ c ≤ 5) ∧ PI ia ib xs zs ∧ SrtP cf zs ia i) ∧ K' = [(9, .int .i64 (i : Int)), (10, .int .i64 (c : Int))] ∧ D' = [] ∧ M' = [own 32 28 (some ⟨pb, po, none⟩) len cap ((zs).map iC)] ∧ μ = 5 - c) (.cons (t := 0) rfl <| .cons (t := 1) rfl <| .cons (t := 2) rfl <| .cons (t := 3) rfl <| SubK.nil _) (⟨ia + 1, 0, xs, ⟨by omega, .refl _ _ _, .one⟩, rfl, rfl, rfl, rfl⟩) (.cons (t := 9) rfl <| .cons (t := 10) rfl <| SubK.nil _) qD qS ?_
  rintro K1 D1 M1 m1 ⟨i, c, zs, ⟨hi, hP, hS⟩, rfl, rfl, rfl, rfl⟩
  refine T.norm3 qA qA qA ?_
  have hzl := hP.len
  refine T.seq ?_
  refine T.seq ?_
  refine T.region ?_
  refine L.move rfl rfl ?_
  refine L.ltI rfl rfl rfl ?_
  refine L.nil ?_
  refine T.thenN ?_
  refine T.cond rfl (fun h16 => ?_) (fun h16 => ?_)
  · try simp only [decide_eq_true_eq, decide_eq_false_iff_not, Bool.not_eq_true', Bool.not_eq_false', Bool.and_eq_true, Bool.or_eq_true] at h16
    refine T.skip ?_
    refine T.thenN ?_
    refine T.seq ?_
    refine T.block ?_
    refine T.seq ?_
    refine T.cutC (fun K' D' M' => ∃ (i : Nat), ((ia + 1 ≤ i ∧ i ≤ ib) ∧ SrtP cf zs ia i ∧ (i < ib → cf (gd zs i) (gd zs (i - 1)) < 0)) ∧ K' = [(9, .int .i64 (i : Int))] ∧ D' = [] ∧ M' = [own 32 28 (some ⟨pb, po, none⟩) len cap ((zs).map iC)]) (M0 := [own 32 28 (some ⟨pb, po, none⟩) len cap ((zs).map iC)]) (.cons (t := 0) rfl <| .cons (t := 1) rfl <| .cons (t := 2) rfl <| .cons (t := 3) rfl <| .cons (t := 10) rfl <| SubK.nil _) qS ?_ ?_
    · skip
      refine T.block ?_
      refine T.loop (fun K' D' M' μ => ∃ (i : Nat), ((ia + 1 ≤ i ∧ i ≤ ib) ∧ SrtP cf zs ia i) ∧ K' = [(9, .int .i64 (i : Int))] ∧ D' = [] ∧ M' = [own 32 28 (some ⟨pb, po, none⟩) len cap ((zs).map iC)] ∧ μ = ib - i) (.cons (t := 0) rfl <| .cons (t := 1) rfl <| .cons (t := 2) rfl <| .cons (t := 3) rfl <| .cons (t := 10) rfl <| SubK.nil _) (⟨i, ⟨by omega, hS⟩, rfl, rfl, rfl, rfl⟩) (.cons (t := 9) rfl <| SubK.nil _) qD qS ?_
      rintro K1 D1 M1 m1 ⟨i, ⟨hi, hS⟩, rfl, rfl, rfl, rfl⟩
      refine T.norm3 qA qA qA ?_
      refine T.seq ?_
      refine T.seq ?_
      rcases Nat.lt_or_ge i ib with hib2 | hib2
      · skip
        have hg0 : zs[i]? = some (gd zs (i)) := gd_get (by omega)
        have hw0 := iC_len (gd zs (i))
        have hg1 : zs[i - 1]? = some (gd zs (i - 1)) := gd_get (by omega)
        have hw1 := iC_len (gd zs (i - 1))
        refine T.regionQ (by kernel_rfl) (by kernel_rfl) ?_
        refine L.move rfl rfl ?_
        refine L.move rfl rfl ?_
        refine L.ltI rfl rfl rfl ?_
        refine L.move rfl rfl ?_
        refine L.known (t := 22) rfl (show _ = Value.bool true from congrArg Value.bool (decide_eq_true (by omega))) ?_
        refine L.guardT (dj := 22) rfl rfl rfl ?_
        refine L.move rfl rfl ?_
        refine L.guardT (dj := 22) rfl rfl rfl ?_
        refine L.move rfl rfl ?_
        refine L.guardT (dj := 22) rfl rfl rfl ?_
        refine L.move rfl rfl ?_
        refine L.guardT (dj := 22) rfl rfl rfl ?_
        refine L.idxG (i := i) rfl Try.underlying34 sz28 rfl rfl (by first | rfl | omega | (simp; done)) qI ?_
        refine L.guardT (dj := 22) rfl rfl rfl ?_
        refine L.loadA rfl ag28 rfl (CellsN.ofOwn qM (map_get hg0) hw0) ?_
        refine L.guardT (dj := 22) rfl rfl rfl ?_
        refine L.move rfl rfl ?_
        refine L.guardT (dj := 22) rfl rfl rfl ?_
        refine L.move rfl rfl ?_
        refine L.guardT (dj := 22) rfl rfl rfl ?_
        refine L.subN rfl rfl rfl (by omega) ?_
        refine L.known (t := 30) (u := .int .i64 ((i - 1 : Nat) : Int)) rfl (congrArg (Value.int .i64) (by omega)) ?_
        refine L.guardT (dj := 22) rfl rfl rfl ?_
        refine L.idxG (i := i - 1) rfl Try.underlying34 sz28 rfl rfl (by first | rfl | omega | (simp; done)) qI ?_
        refine L.guardT (dj := 22) rfl rfl rfl ?_
        refine L.loadA rfl ag28 rfl (CellsN.ofOwn qM (map_get hg1) hw1) ?_
        refine L.guardT (dj := 22) rfl rfl rfl ?_
        refine L.callVF rfl rfl (evs.cons rfl <| evs.cons rfl <| evs.nil) qD qS (hc (gd zs i) (gd zs (i - 1))) (by rintro u D1 M1 ⟨rfl, rfl, rfl⟩; exact ⟨rfl, _, qA, qF⟩) ?_
        refine L.guardT (dj := 22) rfl rfl rfl ?_
        refine L.ltI rfl rfl rfl ?_
        refine L.guardT (dj := 22) rfl rfl rfl ?_
        refine L.notB rfl rfl ?_
        refine L.pickT rfl rfl rfl ?_
        refine L.nilQ ?_
        refine T.thenN ?_
        refine T.cond rfl (fun h36 => ?_) (fun h36 => ?_)
        · try simp only [decide_eq_true_eq, decide_eq_false_iff_not, Bool.not_eq_true', Bool.not_eq_false', Bool.and_eq_true, Bool.or_eq_true] at h36
          refine T.skip ?_
          refine T.thenN ?_
          refine T.block ?_
          refine T.region ?_
          refine L.move rfl rfl ?_
          refine L.addN rfl rfl rfl (by omega) ?_
          refine L.assign rfl rfl ?_
          refine L.nil ?_
          refine T.blkN ?_
          refine T.thenN ?_
          exact T.back ⟨i + 1, ⟨by omega, hS.more hO (fun _ => h36)⟩, rfl, rfl, rfl, rfl⟩ qI (.cons (t := 9) rfl <| SubK.nil _) (.cons (t := 0) rfl <| .cons (t := 1) rfl <| .cons (t := 2) rfl <| .cons (t := 3) rfl <| .cons (t := 10) rfl <| SubK.nil _) qD qD qF
        · try simp only [decide_eq_true_eq, decide_eq_false_iff_not, Bool.not_eq_true', Bool.not_eq_false', Bool.and_eq_true, Bool.or_eq_true] at h36
          refine T.exit ?_
          refine T.thenX ?_
          refine T.thenX ?_
          refine T.blkX ?_
          refine T.thenN ?_
          exact T.toJoin ⟨i, ⟨by omega, hS, fun _ => h36⟩, rfl, rfl, rfl⟩ (.cons (t := 9) rfl <| SubK.nil _) (.cons (t := 0) rfl <| .cons (t := 1) rfl <| .cons (t := 2) rfl <| .cons (t := 3) rfl <| .cons (t := 10) rfl <| SubK.nil _) qD qD qF
      · skip
        refine T.regionQ (by kernel_rfl) (by kernel_rfl) ?_
        refine L.move rfl rfl ?_
        refine L.move rfl rfl ?_
        refine L.ltI rfl rfl rfl ?_
        refine L.move rfl rfl ?_
        refine L.known (t := 22) rfl (show _ = Value.bool false from congrArg Value.bool (decide_eq_false (by omega))) ?_
        refine L.guardF (dj := 22) (c := false) rfl rfl rfl rfl rfl (by decide) ?_
        refine L.guardF (dj := 22) (c := false) rfl rfl rfl rfl rfl (by decide) ?_
        refine L.guardF (dj := 22) (c := false) rfl rfl rfl rfl rfl (by decide) ?_
        refine L.guardF (dj := 22) (c := false) rfl rfl rfl rfl rfl (by decide) ?_
        refine L.guardF (dj := 22) (c := false) rfl rfl rfl rfl rfl (by decide) ?_
        refine L.guardF (dj := 22) (c := false) rfl rfl rfl rfl rfl (by decide) ?_
        refine L.guardF (dj := 22) (c := false) rfl rfl rfl rfl rfl (by decide) ?_
        refine L.guardF (dj := 22) (c := false) rfl rfl rfl rfl rfl (by decide) ?_
        refine L.guardF (dj := 22) (c := false) rfl rfl rfl rfl rfl (by decide) ?_
        refine L.guardF (dj := 22) (c := false) rfl rfl rfl rfl rfl (by decide) ?_
        refine L.guardF (dj := 22) (c := false) rfl rfl rfl rfl rfl (by decide) ?_
        refine L.guardF (dj := 22) (c := false) rfl rfl rfl rfl rfl (by decide) ?_
        refine L.guardF (dj := 22) (c := false) rfl rfl rfl rfl rfl (by decide) ?_
        refine L.pickF rfl rfl rfl ?_
        refine L.nilQ ?_
        refine T.thenN ?_
        refine T.condF rfl rfl ?_
        refine T.exit ?_
        refine T.thenX ?_
        refine T.thenX ?_
        refine T.blkX ?_
        refine T.thenN ?_
        exact T.toJoin ⟨i, ⟨by omega, hS, fun e => absurd e (by omega)⟩, rfl, rfl, rfl⟩ (.cons (t := 9) rfl <| SubK.nil _) (.cons (t := 0) rfl <| .cons (t := 1) rfl <| .cons (t := 2) rfl <| .cons (t := 3) rfl <| .cons (t := 10) rfl <| SubK.nil _) qD qD qF
    rintro _ _ _ ⟨i, ⟨hi3, hS, hlt⟩, rfl, rfl, rfl⟩
    refine T.norm3 qA qA qA ?_
    refine T.thenN ?_
    refine T.seq ?_
    refine T.seq ?_
    refine T.region ?_
    refine L.move rfl rfl ?_
    refine L.move rfl rfl ?_
    refine L.eqI rfl rfl rfl ?_
    refine L.nil ?_
    refine T.thenN ?_
    refine T.cond rfl (fun h41 => ?_) (fun h41 => ?_)
    · try simp only [decide_eq_true_eq, decide_eq_false_iff_not, Bool.not_eq_true', Bool.not_eq_false', Bool.and_eq_true, Bool.or_eq_true] at h41
      refine T.seq ?_
      refine T.region ?_
      refine L.assign rfl rfl ?_
      refine L.nil ?_
      refine T.thenN ?_
      refine T.ret ?_
      refine T.thenR ?_
      refine T.blkR ?_
      refine T.thenR ?_
      refine T.thenR ?_
      refine T.blkR ?_
      refine T.thenR ?_
      exact T.ret1 rfl rfl ⟨zs, true, rfl, hP, fun _ => (show i = ib by omega) ▸ hS, rfl, rfl⟩ qD qF
    · try simp only [decide_eq_true_eq, decide_eq_false_iff_not, Bool.not_eq_true', Bool.not_eq_false', Bool.and_eq_true, Bool.or_eq_true] at h41
      refine T.skip ?_
      refine T.thenN ?_
      refine T.seq ?_
      refine T.seq ?_
      refine T.region ?_
      refine L.move rfl rfl ?_
      refine L.move rfl rfl ?_
      refine L.subN rfl rfl rfl (by omega) ?_
      refine L.ltI rfl rfl rfl ?_
      refine L.nil ?_
      refine T.thenN ?_
      refine T.cond rfl (fun h45 => ?_) (fun h45 => ?_)
      · try simp only [decide_eq_true_eq, decide_eq_false_iff_not, Bool.not_eq_true', Bool.not_eq_false', Bool.and_eq_true, Bool.or_eq_true] at h45
        refine T.seq ?_
        refine T.region ?_
        refine L.assign rfl rfl ?_
        refine L.nil ?_
        refine T.thenN ?_
        refine T.ret ?_
        refine T.thenR ?_
        refine T.blkR ?_
        refine T.thenR ?_
        refine T.thenR ?_
        refine T.blkR ?_
        refine T.thenR ?_
        exact T.ret1 rfl rfl ⟨zs, false, rfl, hP, fun e => (by cases e), rfl, rfl⟩ qD qF
      · try simp only [decide_eq_true_eq, decide_eq_false_iff_not, Bool.not_eq_true', Bool.not_eq_false', Bool.and_eq_true, Bool.or_eq_true] at h45
        refine T.skip ?_
        refine T.thenN ?_
        refine T.seq ?_
        have hg0 : zs[i]? = some (gd zs (i)) := gd_get (by omega)
        have hw0 := iC_len (gd zs (i))
        have hg1 : zs[i - 1]? = some (gd zs (i - 1)) := gd_get (by omega)
        have hw1 := iC_len (gd zs (i - 1))
        refine T.regionA (clsL [1, 1, 1, 1, 1, 1, 1, 1, 1, 0, 1, 1, 1, 0, 1, 2, 1, 2]) (by kernel_rfl) ?_
        refine A.takeP (i := 0) rfl rfl rfl rfl (by kernel_rfl) (by kernel_rfl) (by kernel_rfl) rfl qD ?_
        refine L.move rfl rfl ?_
        refine A.took ?_
        refine A.takeP (i := 1) rfl rfl rfl rfl (by kernel_rfl) (by kernel_rfl) (by kernel_rfl) rfl qD ?_
        refine L.move rfl rfl ?_
        refine A.took ?_
        refine A.takeP (i := 2) rfl rfl rfl rfl (by kernel_rfl) (by kernel_rfl) (by kernel_rfl) rfl qD ?_
        refine L.move rfl rfl ?_
        refine A.took ?_
        refine A.takeP (i := 3) rfl rfl rfl rfl (by kernel_rfl) (by kernel_rfl) (by kernel_rfl) rfl qD ?_
        refine L.move rfl rfl ?_
        refine A.took ?_
        refine A.takeP (i := 4) rfl rfl rfl rfl (by kernel_rfl) (by kernel_rfl) (by kernel_rfl) rfl qD ?_
        refine L.subN rfl rfl rfl (by omega) ?_
        refine L.known (t := 50) (u := .int .i64 ((i - 1 : Nat) : Int)) rfl (congrArg (Value.int .i64) (by omega)) ?_
        refine A.took ?_
        refine A.takeP (i := 5) rfl rfl rfl rfl (by kernel_rfl) (by kernel_rfl) (by kernel_rfl) rfl qD ?_
        refine L.move rfl rfl ?_
        refine A.took ?_
        refine A.takeP (i := 6) rfl rfl rfl rfl (by kernel_rfl) (by kernel_rfl) (by kernel_rfl) rfl qD ?_
        refine L.move rfl rfl ?_
        refine A.took ?_
        refine A.takeP (i := 7) rfl rfl rfl rfl (by kernel_rfl) (by kernel_rfl) (by kernel_rfl) rfl qD ?_
        refine L.subN rfl rfl rfl (by omega) ?_
        refine L.known (t := 53) (u := .int .i64 ((i - 1 : Nat) : Int)) rfl (congrArg (Value.int .i64) (by omega)) ?_
        refine A.took ?_
        refine A.takeP (i := 8) rfl rfl rfl rfl (by kernel_rfl) (by kernel_rfl) (by kernel_rfl) rfl qD ?_
        refine L.idxG (i := i - 1) rfl Try.underlying34 sz28 rfl rfl (by first | rfl | omega | (simp; done)) qI ?_
        refine A.took ?_
        refine A.takeP (i := 10) rfl rfl rfl rfl (by kernel_rfl) (by kernel_rfl) (by kernel_rfl) rfl qD ?_
        refine L.move rfl rfl ?_
        refine A.took ?_
        refine A.takeP (i := 11) rfl rfl rfl rfl (by kernel_rfl) (by kernel_rfl) (by kernel_rfl) rfl qD ?_
        refine L.move rfl rfl ?_
        refine A.took ?_
        refine A.takeP (i := 12) rfl rfl rfl rfl (by kernel_rfl) (by kernel_rfl) (by kernel_rfl) rfl qD ?_
        refine L.idxG (i := i) rfl Try.underlying34 sz28 rfl rfl (by first | rfl | omega | (simp; done)) qI ?_
        refine A.took ?_
        refine A.take (i := 9) rfl rfl rfl rfl (by kernel_rfl) (by kernel_rfl) (by kernel_rfl) (by kernel_rfl) rfl qD qF ?_
        refine L.loadA rfl ag28 rfl (CellsN.ofOwn qM (map_get hg1) hw1) ?_
        refine A.took ?_
        refine A.take (i := 13) rfl rfl rfl rfl (by kernel_rfl) (by kernel_rfl) (by kernel_rfl) (by kernel_rfl) rfl qD qF ?_
        refine L.loadA rfl ag28 rfl (CellsN.ofOwn qM (map_get hg0) hw0) ?_
        refine A.took ?_
        refine A.takeP (i := 14) rfl rfl rfl rfl (by kernel_rfl) (by kernel_rfl) (by kernel_rfl) rfl qD ?_
        refine L.idxG (i := i) rfl Try.underlying34 sz28 rfl rfl (by first | rfl | omega | (simp; done)) qI ?_
        refine A.took ?_
        refine A.branch (is := [15]) (by kernel_rfl) (by decide) (Each.cons rfl ?_ <| Each.nil) 
        refine L.storeOA (i) ag28 rfl (by first | rfl | omega | (simp; done)) rfl qL qO qP qI ?_
        refine A.backT rfl qD ?_
        refine A.takeP (i := 16) rfl rfl rfl rfl (by kernel_rfl) (by kernel_rfl) (by kernel_rfl) rfl qD ?_
        refine L.idxG (i := i - 1) rfl Try.underlying34 sz28 rfl rfl (by first | rfl | omega | (simp; done)) qI ?_
        refine A.took ?_
        refine A.branch (is := [17]) (by kernel_rfl) (by decide) (Each.cons rfl ?_ <| Each.nil) 
        refine L.storeOA (i - 1) ag28 rfl (by first | rfl | omega | (simp; done)) rfl qL qO qP qI ?_
        refine A.backT rfl qD ?_
        refine A.done (by kernel_rfl) ?_
        refine T.ownEq _ ((sw zs (i) (i - 1)).map iC) qP (by rw [sw, List.map_set, List.map_set]) ?_
        have hP1 := hP.trans (PI.sw (a := ia) (b := ib) (xs := zs) (i := i) (j := i - 1) (by omega) (by omega) (by omega) (by omega) (by omega))
        have hB1 : InB cf (sw zs i (i - 1)) ia (i - 1) (i - 1) := SrtP.start (SrtP.pi (b := ib) (fun p q h1 h2 h3 => hS p q h1 h2 (by omega)) (.sw (by omega) (by omega) (by omega) (by omega) (by omega)))
        refine T.thenN ?_
        refine T.seq ?_
        refine T.seq ?_
        refine T.region ?_
        refine L.move rfl rfl ?_
        refine L.move rfl rfl ?_
        refine L.subN rfl rfl rfl (by omega) ?_
        refine L.geI rfl rfl rfl ?_
        refine L.nil ?_
        refine T.thenN ?_
        refine T.cutC (fun K' D' M' => ∃ (ys : List ID32), (PI ia ib xs ys ∧ SrtP cf ys ia i) ∧ K' = [] ∧ D' = [] ∧ M' = [own 32 28 (some ⟨pb, po, none⟩) len cap ((ys).map iC)]) (M0 := [own 32 28 (some ⟨pb, po, none⟩) len cap ((sw zs i (i - 1)).map iC)]) (.cons (t := 0) rfl <| .cons (t := 1) rfl <| .cons (t := 2) rfl <| .cons (t := 3) rfl <| .cons (t := 9) rfl <| .cons (t := 10) rfl <| SubK.nil _) qS ?_ ?_
        · skip
          refine T.cond rfl (fun h65 => ?_) (fun h65 => ?_)
          · try simp only [decide_eq_true_eq, decide_eq_false_iff_not, Bool.not_eq_true', Bool.not_eq_false', Bool.and_eq_true, Bool.or_eq_true] at h65
            refine T.seq ?_
            refine T.region ?_
            refine L.move rfl rfl ?_
            refine L.subN rfl rfl rfl (by omega) ?_
            refine L.known (t := 67) (u := .int .i64 ((i - 1 : Nat) : Int)) rfl (congrArg (Value.int .i64) (by omega)) ?_
            refine L.assign rfl rfl ?_
            refine L.nil ?_
            refine T.thenN ?_
            refine T.block ?_
            refine T.loop (fun K' D' M' μ => ∃ (j : Nat) (ws : List ID32), ((ia ≤ j ∧ j ≤ i - 1) ∧ PI ia ib xs ws ∧ InB cf ws ia (i - 1) j) ∧ K' = [(11, .int .i64 (j : Int))] ∧ D' = [] ∧ M' = [own 32 28 (some ⟨pb, po, none⟩) len cap ((ws).map iC)] ∧ μ = 2 * j) (.cons (t := 0) rfl <| .cons (t := 1) rfl <| .cons (t := 2) rfl <| .cons (t := 3) rfl <| .cons (t := 9) rfl <| .cons (t := 10) rfl <| SubK.nil _) (⟨i - 1, sw zs i (i - 1), ⟨by omega, hP1, hB1⟩, rfl, rfl, rfl, rfl⟩) (.cons (t := 11) rfl <| SubK.nil _) qD qS ?_
            rintro K1 D1 M1 m1 ⟨j, ws, ⟨hj, hP2, hB⟩, rfl, rfl, rfl, rfl⟩
            refine T.norm3 qA qA qA ?_
            have hwl := hP2.len
            refine T.seq ?_
            refine T.seq ?_
            refine T.region ?_
            refine L.move rfl rfl ?_
            refine L.geI rfl rfl rfl ?_
            refine L.nil ?_
            refine T.thenN ?_
            refine T.cond rfl (fun h69 => ?_) (fun h69 => ?_)
            · try simp only [decide_eq_true_eq, decide_eq_false_iff_not, Bool.not_eq_true', Bool.not_eq_false', Bool.and_eq_true, Bool.or_eq_true] at h69
              refine T.skip ?_
              refine T.thenN ?_
              refine T.seq ?_
              refine T.block ?_
              refine T.seq ?_
              refine T.seq ?_
              have hg0 : ws[j]? = some (gd ws (j)) := gd_get (by omega)
              have hw0 := iC_len (gd ws (j))
              have hg1 : ws[j - 1]? = some (gd ws (j - 1)) := gd_get (by omega)
              have hw1 := iC_len (gd ws (j - 1))
              refine T.regionQ (by kernel_rfl) (by kernel_rfl) ?_
              refine L.move rfl rfl ?_
              refine L.move rfl rfl ?_
              refine L.move rfl rfl ?_
              refine L.idxG (i := j) rfl Try.underlying34 sz28 rfl rfl (by first | rfl | omega | (simp; done)) qI ?_
              refine L.loadA rfl ag28 rfl (CellsN.ofOwn qM (map_get hg0) hw0) ?_
              refine L.move rfl rfl ?_
              refine L.move rfl rfl ?_
              refine L.subN rfl rfl rfl (by omega) ?_
              refine L.known (t := 79) (u := .int .i64 ((j - 1 : Nat) : Int)) rfl (congrArg (Value.int .i64) (by omega)) ?_
              refine L.idxG (i := j - 1) rfl Try.underlying34 sz28 rfl rfl (by first | rfl | omega | (simp; done)) qI ?_
              refine L.loadA rfl ag28 rfl (CellsN.ofOwn qM (map_get hg1) hw1) ?_
              refine L.callVF rfl rfl (evs.cons rfl <| evs.cons rfl <| evs.nil) qD qS (hc (gd ws j) (gd ws (j - 1))) (by rintro u D1 M1 ⟨rfl, rfl, rfl⟩; exact ⟨rfl, _, qA, qF⟩) ?_
              refine L.ltI rfl rfl rfl ?_
              refine L.notB rfl rfl ?_
              refine L.nilQ ?_
              refine T.thenN ?_
              refine T.cond rfl (fun h84 => ?_) (fun h84 => ?_)
              · try simp only [decide_eq_true_eq, decide_eq_false_iff_not, Bool.not_eq_true', Bool.not_eq_false', Bool.and_eq_true, Bool.or_eq_true] at h84
                have hend : SrtP cf ws ia i := (show i - 1 + 1 = i by omega) ▸ hB.stop hO (by omega) (by omega) (fun _ => h84)
                refine T.exit ?_
                refine T.thenX ?_
                refine T.blkY rfl ?_
                refine T.thenX ?_
                refine T.thenX ?_
                refine T.blkX ?_
                refine T.thenN ?_
                exact T.toJoin ⟨ws, ⟨hP2, hend⟩, rfl, rfl, rfl⟩ (SubK.nil _) (.cons (t := 0) rfl <| .cons (t := 1) rfl <| .cons (t := 2) rfl <| .cons (t := 3) rfl <| .cons (t := 9) rfl <| .cons (t := 10) rfl <| SubK.nil _) qD qD qF
              · try simp only [decide_eq_true_eq, decide_eq_false_iff_not, Bool.not_eq_true', Bool.not_eq_false', Bool.and_eq_true, Bool.or_eq_true] at h84
                have hij : ia < j := Decidable.byContradiction fun q => absurd h84 (by have := hpre ws hP2 j (by omega) (by omega) (by omega); rwa [show ia - 1 = j - 1 by omega] at this)
                refine T.skip ?_
                refine T.thenN ?_
                have hg0 : ws[j]? = some (gd ws (j)) := gd_get (by omega)
                have hw0 := iC_len (gd ws (j))
                have hg1 : ws[j - 1]? = some (gd ws (j - 1)) := gd_get (by omega)
                have hw1 := iC_len (gd ws (j - 1))
                refine T.regionA (clsL [1, 1, 1, 1, 1, 1, 1, 1, 1, 0, 1, 1, 1, 0, 1, 2, 1, 2]) (by kernel_rfl) ?_
                refine A.takeP (i := 0) rfl rfl rfl rfl (by kernel_rfl) (by kernel_rfl) (by kernel_rfl) rfl qD ?_
                refine L.move rfl rfl ?_
                refine A.took ?_
                refine A.takeP (i := 1) rfl rfl rfl rfl (by kernel_rfl) (by kernel_rfl) (by kernel_rfl) rfl qD ?_
                refine L.move rfl rfl ?_
                refine A.took ?_
                refine A.takeP (i := 2) rfl rfl rfl rfl (by kernel_rfl) (by kernel_rfl) (by kernel_rfl) rfl qD ?_
                refine L.move rfl rfl ?_
                refine A.took ?_
                refine A.takeP (i := 3) rfl rfl rfl rfl (by kernel_rfl) (by kernel_rfl) (by kernel_rfl) rfl qD ?_
                refine L.move rfl rfl ?_
                refine A.took ?_
                refine A.takeP (i := 4) rfl rfl rfl rfl (by kernel_rfl) (by kernel_rfl) (by kernel_rfl) rfl qD ?_
                refine L.subN rfl rfl rfl (by omega) ?_
                refine L.known (t := 89) (u := .int .i64 ((j - 1 : Nat) : Int)) rfl (congrArg (Value.int .i64) (by omega)) ?_
                refine A.took ?_
                refine A.takeP (i := 5) rfl rfl rfl rfl (by kernel_rfl) (by kernel_rfl) (by kernel_rfl) rfl qD ?_
                refine L.move rfl rfl ?_
                refine A.took ?_
                refine A.takeP (i := 6) rfl rfl rfl rfl (by kernel_rfl) (by kernel_rfl) (by kernel_rfl) rfl qD ?_
                refine L.move rfl rfl ?_
                refine A.took ?_
                refine A.takeP (i := 7) rfl rfl rfl rfl (by kernel_rfl) (by kernel_rfl) (by kernel_rfl) rfl qD ?_
                refine L.subN rfl rfl rfl (by omega) ?_
                refine L.known (t := 92) (u := .int .i64 ((j - 1 : Nat) : Int)) rfl (congrArg (Value.int .i64) (by omega)) ?_
                refine A.took ?_
                refine A.takeP (i := 8) rfl rfl rfl rfl (by kernel_rfl) (by kernel_rfl) (by kernel_rfl) rfl qD ?_
                refine L.idxG (i := j - 1) rfl Try.underlying34 sz28 rfl rfl (by first | rfl | omega | (simp; done)) qI ?_
                refine A.took ?_
                refine A.takeP (i := 10) rfl rfl rfl rfl (by kernel_rfl) (by kernel_rfl) (by kernel_rfl) rfl qD ?_
                refine L.move rfl rfl ?_
                refine A.took ?_
                refine A.takeP (i := 11) rfl rfl rfl rfl (by kernel_rfl) (by kernel_rfl) (by kernel_rfl) rfl qD ?_
                refine L.move rfl rfl ?_
                refine A.took ?_
                refine A.takeP (i := 12) rfl rfl rfl rfl (by kernel_rfl) (by kernel_rfl) (by kernel_rfl) rfl qD ?_
                refine L.idxG (i := j) rfl Try.underlying34 sz28 rfl rfl (by first | rfl | omega | (simp; done)) qI ?_
                refine A.took ?_
                refine A.take (i := 9) rfl rfl rfl rfl (by kernel_rfl) (by kernel_rfl) (by kernel_rfl) (by kernel_rfl) rfl qD qF ?_
                refine L.loadA rfl ag28 rfl (CellsN.ofOwn qM (map_get hg1) hw1) ?_
                refine A.took ?_
                refine A.take (i := 13) rfl rfl rfl rfl (by kernel_rfl) (by kernel_rfl) (by kernel_rfl) (by kernel_rfl) rfl qD qF ?_
                refine L.loadA rfl ag28 rfl (CellsN.ofOwn qM (map_get hg0) hw0) ?_
                refine A.took ?_
                refine A.takeP (i := 14) rfl rfl rfl rfl (by kernel_rfl) (by kernel_rfl) (by kernel_rfl) rfl qD ?_
                refine L.idxG (i := j) rfl Try.underlying34 sz28 rfl rfl (by first | rfl | omega | (simp; done)) qI ?_
                refine A.took ?_
                refine A.branch (is := [15]) (by kernel_rfl) (by decide) (Each.cons rfl ?_ <| Each.nil) 
                refine L.storeOA (j) ag28 rfl (by first | rfl | omega | (simp; done)) rfl qL qO qP qI ?_
                refine A.backT rfl qD ?_
                refine A.takeP (i := 16) rfl rfl rfl rfl (by kernel_rfl) (by kernel_rfl) (by kernel_rfl) rfl qD ?_
                refine L.idxG (i := j - 1) rfl Try.underlying34 sz28 rfl rfl (by first | rfl | omega | (simp; done)) qI ?_
                refine A.took ?_
                refine A.branch (is := [17]) (by kernel_rfl) (by decide) (Each.cons rfl ?_ <| Each.nil) 
                refine L.storeOA (j - 1) ag28 rfl (by first | rfl | omega | (simp; done)) rfl qL qO qP qI ?_
                refine A.backT rfl qD ?_
                refine A.done (by kernel_rfl) ?_
                refine T.ownEq _ ((sw ws (j) (j - 1)).map iC) qP (by rw [sw, List.map_set, List.map_set]) ?_
                refine T.blkN ?_
                refine T.thenN ?_
                refine T.region ?_
                refine L.move rfl rfl ?_
                refine L.subN rfl rfl rfl (by omega) ?_
                refine L.known (t := 71) (u := .int .i64 ((j - 1 : Nat) : Int)) rfl (congrArg (Value.int .i64) (by omega)) ?_
                refine L.assign rfl rfl ?_
                refine L.nil ?_
                refine T.thenN ?_
                exact T.back ⟨j - 1, sw ws j (j - 1), ⟨by omega, hP2.trans (.sw (by omega) (by omega) (by omega) (by omega) (by omega)), hB.swap hO (by omega) (by omega) hij h84⟩, rfl, rfl, rfl, rfl⟩ qI (.cons (t := 11) rfl <| SubK.nil _) (.cons (t := 0) rfl <| .cons (t := 1) rfl <| .cons (t := 2) rfl <| .cons (t := 3) rfl <| .cons (t := 9) rfl <| .cons (t := 10) rfl <| SubK.nil _) qD qD qF
            · try simp only [decide_eq_true_eq, decide_eq_false_iff_not, Bool.not_eq_true', Bool.not_eq_false', Bool.and_eq_true, Bool.or_eq_true] at h69
              have hend : SrtP cf ws ia i := (show i - 1 + 1 = i by omega) ▸ hB.stop hO (by omega) (by omega) (fun e => absurd e (by omega))
              refine T.exit ?_
              refine T.thenX ?_
              refine T.thenX ?_
              refine T.blkX ?_
              refine T.thenN ?_
              exact T.toJoin ⟨ws, ⟨hP2, hend⟩, rfl, rfl, rfl⟩ (SubK.nil _) (.cons (t := 0) rfl <| .cons (t := 1) rfl <| .cons (t := 2) rfl <| .cons (t := 3) rfl <| .cons (t := 9) rfl <| .cons (t := 10) rfl <| SubK.nil _) qD qD qF
          · try simp only [decide_eq_true_eq, decide_eq_false_iff_not, Bool.not_eq_true', Bool.not_eq_false', Bool.and_eq_true, Bool.or_eq_true] at h65
            refine T.skip ?_
            refine T.thenN ?_
            exact T.toJoin ⟨sw zs i (i - 1), ⟨hP1, (show i = ia + 1 by omega) ▸ SrtP.one⟩, rfl, rfl, rfl⟩ (SubK.nil _) (.cons (t := 0) rfl <| .cons (t := 1) rfl <| .cons (t := 2) rfl <| .cons (t := 3) rfl <| .cons (t := 9) rfl <| .cons (t := 10) rfl <| SubK.nil _) qD qD qF
        rintro _ _ _ ⟨ys, ⟨hP2, hS2⟩, rfl, rfl, rfl⟩
        refine T.norm3 qA qA qA ?_
        have hyl := hP2.len
        refine T.thenN ?_
        refine T.seq ?_
        refine T.region ?_
        refine L.move rfl rfl ?_
        refine L.move rfl rfl ?_
        refine L.subN rfl rfl rfl (by omega) ?_
        refine L.geI rfl rfl rfl ?_
        refine L.nil ?_
        refine T.thenN ?_
        refine T.cutC (fun K' D' M' => ∃ (ws : List ID32), (PI ia ib xs ws ∧ SrtP cf ws ia i) ∧ K' = [] ∧ D' = [] ∧ M' = [own 32 28 (some ⟨pb, po, none⟩) len cap ((ws).map iC)]) (M0 := [own 32 28 (some ⟨pb, po, none⟩) len cap ((ys).map iC)]) (.cons (t := 0) rfl <| .cons (t := 1) rfl <| .cons (t := 2) rfl <| .cons (t := 3) rfl <| .cons (t := 9) rfl <| .cons (t := 10) rfl <| SubK.nil _) qS ?_ ?_
        · skip
          refine T.cond rfl (fun h104 => ?_) (fun h104 => ?_)
          · try simp only [decide_eq_true_eq, decide_eq_false_iff_not, Bool.not_eq_true', Bool.not_eq_false', Bool.and_eq_true, Bool.or_eq_true] at h104
            refine T.seq ?_
            refine T.region ?_
            refine L.move rfl rfl ?_
            refine L.addN rfl rfl rfl (by omega) ?_
            refine L.known (t := 106) (u := .int .i64 ((i + 1 : Nat) : Int)) rfl (congrArg (Value.int .i64) (by omega)) ?_
            refine L.assign rfl rfl ?_
            refine L.nil ?_
            refine T.thenN ?_
            refine T.block ?_
            refine T.loop (fun K' D' M' μ => ∃ (j : Nat) (ws : List ID32), ((i + 1 ≤ j ∧ j ≤ ib) ∧ PI ia ib xs ws ∧ SrtP cf ws ia i) ∧ K' = [(12, .int .i64 (j : Int))] ∧ D' = [] ∧ M' = [own 32 28 (some ⟨pb, po, none⟩) len cap ((ws).map iC)] ∧ μ = ib - j) (.cons (t := 0) rfl <| .cons (t := 1) rfl <| .cons (t := 2) rfl <| .cons (t := 3) rfl <| .cons (t := 9) rfl <| .cons (t := 10) rfl <| SubK.nil _) (⟨i + 1, ys, ⟨by omega, hP2, hS2⟩, rfl, rfl, rfl, rfl⟩) (.cons (t := 12) rfl <| SubK.nil _) qD qS ?_
            rintro K1 D1 M1 m1 ⟨j, ws, ⟨hj, hP4, hS4⟩, rfl, rfl, rfl, rfl⟩
            refine T.norm3 qA qA qA ?_
            have hwl := hP4.len
            refine T.seq ?_
            refine T.seq ?_
            refine T.region ?_
            refine L.move rfl rfl ?_
            refine L.move rfl rfl ?_
            refine L.ltI rfl rfl rfl ?_
            refine L.nil ?_
            refine T.thenN ?_
            refine T.cond rfl (fun h109 => ?_) (fun h109 => ?_)
            · try simp only [decide_eq_true_eq, decide_eq_false_iff_not, Bool.not_eq_true', Bool.not_eq_false', Bool.and_eq_true, Bool.or_eq_true] at h109
              refine T.skip ?_
              refine T.thenN ?_
              refine T.seq ?_
              refine T.block ?_
              refine T.seq ?_
              refine T.seq ?_
              have hg0 : ws[j]? = some (gd ws (j)) := gd_get (by omega)
              have hw0 := iC_len (gd ws (j))
              have hg1 : ws[j - 1]? = some (gd ws (j - 1)) := gd_get (by omega)
              have hw1 := iC_len (gd ws (j - 1))
              refine T.regionQ (by kernel_rfl) (by kernel_rfl) ?_
              refine L.move rfl rfl ?_
              refine L.move rfl rfl ?_
              refine L.move rfl rfl ?_
              refine L.idxG (i := j) rfl Try.underlying34 sz28 rfl rfl (by first | rfl | omega | (simp; done)) qI ?_
              refine L.loadA rfl ag28 rfl (CellsN.ofOwn qM (map_get hg0) hw0) ?_
              refine L.move rfl rfl ?_
              refine L.move rfl rfl ?_
              refine L.subN rfl rfl rfl (by omega) ?_
              refine L.known (t := 119) (u := .int .i64 ((j - 1 : Nat) : Int)) rfl (congrArg (Value.int .i64) (by omega)) ?_
              refine L.idxG (i := j - 1) rfl Try.underlying34 sz28 rfl rfl (by first | rfl | omega | (simp; done)) qI ?_
              refine L.loadA rfl ag28 rfl (CellsN.ofOwn qM (map_get hg1) hw1) ?_
              refine L.callVF rfl rfl (evs.cons rfl <| evs.cons rfl <| evs.nil) qD qS (hc (gd ws j) (gd ws (j - 1))) (by rintro u D1 M1 ⟨rfl, rfl, rfl⟩; exact ⟨rfl, _, qA, qF⟩) ?_
              refine L.ltI rfl rfl rfl ?_
              refine L.notB rfl rfl ?_
              refine L.nilQ ?_
              refine T.thenN ?_
              refine T.cond rfl (fun h124 => ?_) (fun h124 => ?_)
              · try simp only [decide_eq_true_eq, decide_eq_false_iff_not, Bool.not_eq_true', Bool.not_eq_false', Bool.and_eq_true, Bool.or_eq_true] at h124
                refine T.exit ?_
                refine T.thenX ?_
                refine T.blkY rfl ?_
                refine T.thenX ?_
                refine T.thenX ?_
                refine T.blkX ?_
                refine T.thenN ?_
                exact T.toJoin ⟨ws, ⟨hP4, hS4⟩, rfl, rfl, rfl⟩ (SubK.nil _) (.cons (t := 0) rfl <| .cons (t := 1) rfl <| .cons (t := 2) rfl <| .cons (t := 3) rfl <| .cons (t := 9) rfl <| .cons (t := 10) rfl <| SubK.nil _) qD qD qF
              · try simp only [decide_eq_true_eq, decide_eq_false_iff_not, Bool.not_eq_true', Bool.not_eq_false', Bool.and_eq_true, Bool.or_eq_true] at h124
                refine T.skip ?_
                refine T.thenN ?_
                have hg0 : ws[j]? = some (gd ws (j)) := gd_get (by omega)
                have hw0 := iC_len (gd ws (j))
                have hg1 : ws[j - 1]? = some (gd ws (j - 1)) := gd_get (by omega)
                have hw1 := iC_len (gd ws (j - 1))
                refine T.regionA (clsL [1, 1, 1, 1, 1, 1, 1, 1, 1, 0, 1, 1, 1, 0, 1, 2, 1, 2]) (by kernel_rfl) ?_
                refine A.takeP (i := 0) rfl rfl rfl rfl (by kernel_rfl) (by kernel_rfl) (by kernel_rfl) rfl qD ?_
                refine L.move rfl rfl ?_
                refine A.took ?_
                refine A.takeP (i := 1) rfl rfl rfl rfl (by kernel_rfl) (by kernel_rfl) (by kernel_rfl) rfl qD ?_
                refine L.move rfl rfl ?_
                refine A.took ?_
                refine A.takeP (i := 2) rfl rfl rfl rfl (by kernel_rfl) (by kernel_rfl) (by kernel_rfl) rfl qD ?_
                refine L.move rfl rfl ?_
                refine A.took ?_
                refine A.takeP (i := 3) rfl rfl rfl rfl (by kernel_rfl) (by kernel_rfl) (by kernel_rfl) rfl qD ?_
                refine L.move rfl rfl ?_
                refine A.took ?_
                refine A.takeP (i := 4) rfl rfl rfl rfl (by kernel_rfl) (by kernel_rfl) (by kernel_rfl) rfl qD ?_
                refine L.subN rfl rfl rfl (by omega) ?_
                refine L.known (t := 129) (u := .int .i64 ((j - 1 : Nat) : Int)) rfl (congrArg (Value.int .i64) (by omega)) ?_
                refine A.took ?_
                refine A.takeP (i := 5) rfl rfl rfl rfl (by kernel_rfl) (by kernel_rfl) (by kernel_rfl) rfl qD ?_
                refine L.move rfl rfl ?_
                refine A.took ?_
                refine A.takeP (i := 6) rfl rfl rfl rfl (by kernel_rfl) (by kernel_rfl) (by kernel_rfl) rfl qD ?_
                refine L.move rfl rfl ?_
                refine A.took ?_
                refine A.takeP (i := 7) rfl rfl rfl rfl (by kernel_rfl) (by kernel_rfl) (by kernel_rfl) rfl qD ?_
                refine L.subN rfl rfl rfl (by omega) ?_
                refine L.known (t := 132) (u := .int .i64 ((j - 1 : Nat) : Int)) rfl (congrArg (Value.int .i64) (by omega)) ?_
                refine A.took ?_
                refine A.takeP (i := 8) rfl rfl rfl rfl (by kernel_rfl) (by kernel_rfl) (by kernel_rfl) rfl qD ?_
                refine L.idxG (i := j - 1) rfl Try.underlying34 sz28 rfl rfl (by first | rfl | omega | (simp; done)) qI ?_
                refine A.took ?_
                refine A.takeP (i := 10) rfl rfl rfl rfl (by kernel_rfl) (by kernel_rfl) (by kernel_rfl) rfl qD ?_
                refine L.move rfl rfl ?_
                refine A.took ?_
                refine A.takeP (i := 11) rfl rfl rfl rfl (by kernel_rfl) (by kernel_rfl) (by kernel_rfl) rfl qD ?_
                refine L.move rfl rfl ?_
                refine A.took ?_
                refine A.takeP (i := 12) rfl rfl rfl rfl (by kernel_rfl) (by kernel_rfl) (by kernel_rfl) rfl qD ?_
                refine L.idxG (i := j) rfl Try.underlying34 sz28 rfl rfl (by first | rfl | omega | (simp; done)) qI ?_
                refine A.took ?_
                refine A.take (i := 9) rfl rfl rfl rfl (by kernel_rfl) (by kernel_rfl) (by kernel_rfl) (by kernel_rfl) rfl qD qF ?_
                refine L.loadA rfl ag28 rfl (CellsN.ofOwn qM (map_get hg1) hw1) ?_
                refine A.took ?_
                refine A.take (i := 13) rfl rfl rfl rfl (by kernel_rfl) (by kernel_rfl) (by kernel_rfl) (by kernel_rfl) rfl qD qF ?_
                refine L.loadA rfl ag28 rfl (CellsN.ofOwn qM (map_get hg0) hw0) ?_
                refine A.took ?_
                refine A.takeP (i := 14) rfl rfl rfl rfl (by kernel_rfl) (by kernel_rfl) (by kernel_rfl) rfl qD ?_
                refine L.idxG (i := j) rfl Try.underlying34 sz28 rfl rfl (by first | rfl | omega | (simp; done)) qI ?_
                refine A.took ?_
                refine A.branch (is := [15]) (by kernel_rfl) (by decide) (Each.cons rfl ?_ <| Each.nil) 
                refine L.storeOA (j) ag28 rfl (by first | rfl | omega | (simp; done)) rfl qL qO qP qI ?_
                refine A.backT rfl qD ?_
                refine A.takeP (i := 16) rfl rfl rfl rfl (by kernel_rfl) (by kernel_rfl) (by kernel_rfl) rfl qD ?_
                refine L.idxG (i := j - 1) rfl Try.underlying34 sz28 rfl rfl (by first | rfl | omega | (simp; done)) qI ?_
                refine A.took ?_
                refine A.branch (is := [17]) (by kernel_rfl) (by decide) (Each.cons rfl ?_ <| Each.nil) 
                refine L.storeOA (j - 1) ag28 rfl (by first | rfl | omega | (simp; done)) rfl qL qO qP qI ?_
                refine A.backT rfl qD ?_
                refine A.done (by kernel_rfl) ?_
                refine T.ownEq _ ((sw ws (j) (j - 1)).map iC) qP (by rw [sw, List.map_set, List.map_set]) ?_
                refine T.blkN ?_
                refine T.thenN ?_
                refine T.region ?_
                refine L.move rfl rfl ?_
                refine L.addN rfl rfl rfl (by omega) ?_
                refine L.assign rfl rfl ?_
                refine L.nil ?_
                refine T.thenN ?_
                exact T.back ⟨j + 1, sw ws j (j - 1), ⟨by omega, hP4.trans (.sw (by omega) (by omega) (by omega) (by omega) (by omega)), hS4.pi (.sw (b := ib) (by omega) (by omega) (by omega) (by omega) (by omega))⟩, rfl, rfl, rfl, rfl⟩ qI (.cons (t := 12) rfl <| SubK.nil _) (.cons (t := 0) rfl <| .cons (t := 1) rfl <| .cons (t := 2) rfl <| .cons (t := 3) rfl <| .cons (t := 9) rfl <| .cons (t := 10) rfl <| SubK.nil _) qD qD qF
            · try simp only [decide_eq_true_eq, decide_eq_false_iff_not, Bool.not_eq_true', Bool.not_eq_false', Bool.and_eq_true, Bool.or_eq_true] at h109
              refine T.exit ?_
              refine T.thenX ?_
              refine T.thenX ?_
              refine T.blkX ?_
              refine T.thenN ?_
              exact T.toJoin ⟨ws, ⟨hP4, hS4⟩, rfl, rfl, rfl⟩ (SubK.nil _) (.cons (t := 0) rfl <| .cons (t := 1) rfl <| .cons (t := 2) rfl <| .cons (t := 3) rfl <| .cons (t := 9) rfl <| .cons (t := 10) rfl <| SubK.nil _) qD qD qF
          · try simp only [decide_eq_true_eq, decide_eq_false_iff_not, Bool.not_eq_true', Bool.not_eq_false', Bool.and_eq_true, Bool.or_eq_true] at h104
            refine T.skip ?_
            refine T.thenN ?_
            exact T.toJoin ⟨ys, ⟨hP2, hS2⟩, rfl, rfl, rfl⟩ (SubK.nil _) (.cons (t := 0) rfl <| .cons (t := 1) rfl <| .cons (t := 2) rfl <| .cons (t := 3) rfl <| .cons (t := 9) rfl <| .cons (t := 10) rfl <| SubK.nil _) qD qD qF
        rintro _ _ _ ⟨ws, ⟨hP3, hS3⟩, rfl, rfl, rfl⟩
        refine T.norm3 qA qA qA ?_
        refine T.blkN ?_
        refine T.thenN ?_
        refine T.region ?_
        refine L.move rfl rfl ?_
        refine L.addN rfl rfl rfl (by omega) ?_
        refine L.assign rfl rfl ?_
        refine L.nil ?_
        refine T.thenN ?_
        exact T.back ⟨i, c + 1, ws, ⟨by omega, hP3, hS3⟩, rfl, rfl, rfl, rfl⟩ qI (.cons (t := 9) rfl <| .cons (t := 10) rfl <| SubK.nil _) (.cons (t := 0) rfl <| .cons (t := 1) rfl <| .cons (t := 2) rfl <| .cons (t := 3) rfl <| SubK.nil _) qD qD qF
  · try simp only [decide_eq_true_eq, decide_eq_false_iff_not, Bool.not_eq_true', Bool.not_eq_false', Bool.and_eq_true, Bool.or_eq_true] at h16
    refine T.exit ?_
    refine T.thenX ?_
    refine T.thenX ?_
    refine T.blkX ?_
    refine T.thenN ?_
    refine T.seq ?_
    refine T.region ?_
    refine L.assign rfl rfl ?_
    refine L.nil ?_
    refine T.thenN ?_
    refine T.ret ?_
    exact T.ret1 rfl rfl ⟨zs, false, rfl, hP, fun e => (by cases e), rfl, rfl⟩ qD qF
set_option maxHeartbeats 400000 in
theorem parte_spec {g pb po len cap : Nat} {cf : ID32 → ID32 → Int} {xs : List ID32} (hO : SWO cf) (hI : ∀ x : ID32, ¬ cf x x < 0) (hc : ∀ x y : ID32, Spec Try.prog g [.agg (iC x).toArray, .agg (iC y).toArray] [] [] (fun u D' M' => u = .int .i64 (cf x y) ∧ D' = [] ∧ M' = [])) {ia ib pv : Nat} (hpv : ia ≤ pv ∧ pv < ib) (hib : ib ≤ len) (hb : len ≤ 60000) : Spec Try.prog 59 [.slice (some ⟨pb, po, none⟩) len cap, .int .i64 (ia : Int), .int .i64 (ib : Int), .int .i64 (pv : Int), fnV g []] [] [own 32 28 (some ⟨pb, po, none⟩) len cap ((xs).map iC)] (fun v D' M' => ∃ (ys : List ID32) (m : Nat), v = .int .i64 (m : Int) ∧ (PI ia ib xs ys) ∧ (ia < m ∧ m ≤ ib) ∧ (gd ys ia = gd xs pv) ∧ (∀ p, ia ≤ p → p < m → ¬ cf (gd ys ia) (gd ys p) < 0) ∧ (∀ q, m ≤ q → q < ib → cf (gd ys ia) (gd ys q) < 0) ∧ D' = [] ∧ M' = [own 32 28 (some ⟨pb, po, none⟩) len cap ((ys).map iC)]) := by
  refine Spec.intro (n := 90) Try.func59 rfl rfl (by decide) (Nat.le_of_ble_eq_true rfl) rfl (fun _ => qA) (fun _ => qA) ?_
  intro σ D M
  refine T.ownLen qM (fun hl hcc => ?_)
  rw [List.length_map] at hl
  refine T.seq ?_
  refine T.region ?_
  refine L.assign rfl rfl ?_
  refine L.nil ?_
  refine T.thenN ?_
  refine T.seq ?_
  have hg0 : xs[ia]? = some (gd xs (ia)) := gd_get (by omega)
  have hw0 := iC_len (gd xs (ia))
  have hg1 : xs[pv]? = some (gd xs (pv)) := gd_get (by omega)
  have hw1 := iC_len (gd xs (pv))
  refine T.regionA (clsL [1, 1, 1, 1, 1, 1, 1, 0, 1, 1, 1, 0, 1, 2, 1, 2]) (by kernel_rfl) ?_
  refine A.takeP (i := 0) rfl rfl rfl rfl (by kernel_rfl) (by kernel_rfl) (by kernel_rfl) rfl qD ?_
  refine L.move rfl rfl ?_
  refine A.took ?_
  refine A.takeP (i := 1) rfl rfl rfl rfl (by kernel_rfl) (by kernel_rfl) (by kernel_rfl) rfl qD ?_
  refine L.move rfl rfl ?_
  refine A.took ?_
  refine A.takeP (i := 2) rfl rfl rfl rfl (by kernel_rfl) (by kernel_rfl) (by kernel_rfl) rfl qD ?_
  refine L.move rfl rfl ?_
  refine A.took ?_
  refine A.takeP (i := 3) rfl rfl rfl rfl (by kernel_rfl) (by kernel_rfl) (by kernel_rfl) rfl qD ?_
  refine L.move rfl rfl ?_
  refine A.took ?_
  refine A.takeP (i := 4) rfl rfl rfl rfl (by kernel_rfl) (by kernel_rfl) (by kernel_rfl) rfl qD ?_
  refine L.move rfl rfl ?_
  refine A.took ?_
  refine A.takeP (i := 5) rfl rfl rfl rfl (by kernel_rfl) (by kernel_rfl) (by kernel_rfl) rfl qD ?_
  refine L.move rfl rfl ?_
  refine A.took ?_
  refine A.takeP (i := 6) rfl rfl rfl rfl (by kernel_rfl) (by kernel_rfl) (by kernel_rfl) rfl qD ?_
  refine L.idxG (i := pv) rfl Try.underlying34 sz28 rfl rfl (by first | rfl | omega | (simp; done)) qI ?_
  refine A.took ?_
  refine A.takeP (i := 8) rfl rfl rfl rfl (by kernel_rfl) (by kernel_rfl) (by kernel_rfl) rfl qD ?_
  refine L.move rfl rfl ?_
  refine A.took ?_
  refine A.takeP (i := 9) rfl rfl rfl rfl (by kernel_rfl) (by kernel_rfl) (by kernel_rfl) rfl qD ?_
  refine L.move rfl rfl ?_
  refine A.took ?_
  refine A.takeP (i := 10) rfl rfl rfl rfl (by kernel_rfl) (by kernel_rfl) (by kernel_rfl) rfl qD ?_
  refine L.idxG (i := ia) rfl Try.underlying34 sz28 rfl rfl (by first | rfl | omega | (simp; done)) qI ?_
  refine A.took ?_
  refine A.take (i := 7) rfl rfl rfl rfl (by kernel_rfl) (by kernel_rfl) (by kernel_rfl) (by kernel_rfl) rfl qD qF ?_
  refine L.loadA rfl ag28 rfl (CellsN.ofOwn qM (map_get hg1) hw1) ?_
  refine A.took ?_
  refine A.take (i := 11) rfl rfl rfl rfl (by kernel_rfl) (by kernel_rfl) (by kernel_rfl) (by kernel_rfl) rfl qD qF ?_
  refine L.loadA rfl ag28 rfl (CellsN.ofOwn qM (map_get hg0) hw0) ?_
  refine A.took ?_
  refine A.takeP (i := 12) rfl rfl rfl rfl (by kernel_rfl) (by kernel_rfl) (by kernel_rfl) rfl qD ?_
  refine L.idxG (i := ia) rfl Try.underlying34 sz28 rfl rfl (by first | rfl | omega | (simp; done)) qI ?_
  refine A.took ?_
  refine A.branch (is := [13]) (by kernel_rfl) (by decide) (Each.cons rfl ?_ <| Each.nil) 
  refine L.storeOA (ia) ag28 rfl (by first | rfl | omega | (simp; done)) rfl qL qO qP qI ?_
  refine A.backT rfl qD ?_
  refine A.takeP (i := 14) rfl rfl rfl rfl (by kernel_rfl) (by kernel_rfl) (by kernel_rfl) rfl qD ?_
  refine L.idxG (i := pv) rfl Try.underlying34 sz28 rfl rfl (by first | rfl | omega | (simp; done)) qI ?_
  refine A.took ?_
  refine A.branch (is := [15]) (by kernel_rfl) (by decide) (Each.cons rfl ?_ <| Each.nil) 
  refine L.storeOA (pv) ag28 rfl (by first | rfl | omega | (simp; done)) rfl qL qO qP qI ?_
  refine A.backT rfl qD ?_
  refine A.done (by kernel_rfl) ?_
  refine T.ownEq _ ((sw xs (ia) (pv)).map iC) qP (by rw [sw, List.map_set, List.map_set]) ?_
  refine T.thenN ?_
  refine T.seq ?_
  refine T.region ?_
  refine L.move rfl rfl ?_
  refine L.addN rfl rfl rfl (by omega) ?_
  refine L.move rfl rfl ?_
  refine L.subN rfl rfl rfl (by omega) ?_
  refine L.known (t := 30) (u := .int .i64 ((ib - 1 : Nat) : Int)) rfl (congrArg (Value.int .i64) (by omega)) ?_
  refine L.assign rfl rfl ?_
  refine L.assign rfl rfl ?_
  refine L.nil ?_
  refine T.thenN ?_
  refine T.seq ?_
  refine T.block ?_
  refine T.loop (fun K' D' M' μ => ∃ (i0 j0 : Nat) (zs : List ID32), (PI ia ib xs zs ∧ PeI cf zs ia ib i0 j0 ∧ gd zs ia = gd xs pv) ∧ K' = [(11, .int .i64 (i0 : Int)), (12, .int .i64 (j0 : Int))] ∧ D' = [] ∧ M' = [own 32 28 (some ⟨pb, po, none⟩) len cap ((zs).map iC)] ∧ μ = j0 + 1 - i0) (.cons (t := 0) rfl <| .cons (t := 1) rfl <| .cons (t := 4) rfl <| SubK.nil _) (⟨ia + 1, ib - 1, sw xs ia pv, ⟨.sw (by omega) (by omega) (by omega) (by omega) (by omega), .start (by omega), (by rw [gd_sw (by omega) (by omega)]; split <;> first | (rename_i e; rw [e]; done) | rw [if_pos rfl])⟩, rfl, rfl, rfl, rfl⟩) (.cons (t := 11) rfl <| .cons (t := 12) rfl <| SubK.nil _) qD qS ?_
  rintro K1 D1 M1 m1 ⟨i0, j0, zs, ⟨hP, hE, he⟩, rfl, rfl, rfl, rfl⟩
  refine T.norm3 qA qA qA ?_
  have hzl := hP.len
  have hr := hE.rng
  refine T.block ?_
  refine T.seq ?_
  refine T.cutC (fun K' D' M' => ∃ (i : Nat), (i0 ≤ i ∧ PeI cf zs ia ib i j0 ∧ (i ≤ j0 → cf (gd zs ia) (gd zs i) < 0)) ∧ K' = [(11, .int .i64 (i : Int))] ∧ D' = [] ∧ M' = [own 32 28 (some ⟨pb, po, none⟩) len cap ((zs).map iC)]) (M0 := [own 32 28 (some ⟨pb, po, none⟩) len cap ((zs).map iC)]) (.cons (t := 0) rfl <| .cons (t := 1) rfl <| .cons (t := 4) rfl <| .cons (t := 12) rfl <| SubK.nil _) qS ?_ ?_
  · skip
    refine T.block ?_
    refine T.loop (fun K' D' M' μ => ∃ (i : Nat), (i0 ≤ i ∧ PeI cf zs ia ib i j0) ∧ K' = [(11, .int .i64 (i : Int))] ∧ D' = [] ∧ M' = [own 32 28 (some ⟨pb, po, none⟩) len cap ((zs).map iC)] ∧ μ = j0 + 1 - i) (.cons (t := 0) rfl <| .cons (t := 1) rfl <| .cons (t := 4) rfl <| .cons (t := 12) rfl <| SubK.nil _) (⟨i0, ⟨Nat.le_refl _, hE⟩, rfl, rfl, rfl, rfl⟩) (.cons (t := 11) rfl <| SubK.nil _) qD qS ?_
    rintro K1 D1 M1 m1 ⟨i, ⟨hi0, hE⟩, rfl, rfl, rfl, rfl⟩
    refine T.norm3 qA qA qA ?_
    have hr := hE.rng
    refine T.seq ?_
    refine T.seq ?_
    rcases Nat.lt_or_ge j0 i with hji | hji
    · skip
      refine T.regionQ (by kernel_rfl) (by kernel_rfl) ?_
      refine L.move rfl rfl ?_
      refine L.move rfl rfl ?_
      refine L.leI rfl rfl rfl ?_
      refine L.move rfl rfl ?_
      refine L.known (t := 34) rfl (show _ = Value.bool false from congrArg Value.bool (decide_eq_false (by omega))) ?_
      refine L.guardF (dj := 34) (c := false) rfl rfl rfl rfl rfl (by decide) ?_
      refine L.guardF (dj := 34) (c := false) rfl rfl rfl rfl rfl (by decide) ?_
      refine L.guardF (dj := 34) (c := false) rfl rfl rfl rfl rfl (by decide) ?_
      refine L.guardF (dj := 34) (c := false) rfl rfl rfl rfl rfl (by decide) ?_
      refine L.guardF (dj := 34) (c := false) rfl rfl rfl rfl rfl (by decide) ?_
      refine L.guardF (dj := 34) (c := false) rfl rfl rfl rfl rfl (by decide) ?_
      refine L.guardF (dj := 34) (c := false) rfl rfl rfl rfl rfl (by decide) ?_
      refine L.guardF (dj := 34) (c := false) rfl rfl rfl rfl rfl (by decide) ?_
      refine L.guardF (dj := 34) (c := false) rfl rfl rfl rfl rfl (by decide) ?_
      refine L.guardF (dj := 34) (c := false) rfl rfl rfl rfl rfl (by decide) ?_
      refine L.guardF (dj := 34) (c := false) rfl rfl rfl rfl rfl (by decide) ?_
      refine L.guardF (dj := 34) (c := false) rfl rfl rfl rfl rfl (by decide) ?_
      refine L.pickF rfl rfl rfl ?_
      refine L.nilQ ?_
      refine T.thenN ?_
      refine T.condF rfl rfl ?_
      refine T.exit ?_
      refine T.thenX ?_
      refine T.thenX ?_
      refine T.blkX ?_
      refine T.thenN ?_
      exact T.toJoin ⟨i, ⟨hi0, hE, fun e => absurd e (by omega)⟩, rfl, rfl, rfl⟩ (.cons (t := 11) rfl <| SubK.nil _) (.cons (t := 0) rfl <| .cons (t := 1) rfl <| .cons (t := 4) rfl <| .cons (t := 12) rfl <| SubK.nil _) qD qD qF
    · skip
      have hg0 : zs[ia]? = some (gd zs (ia)) := gd_get (by omega)
      have hw0 := iC_len (gd zs (ia))
      have hg1 : zs[i]? = some (gd zs (i)) := gd_get (by omega)
      have hw1 := iC_len (gd zs (i))
      refine T.regionQ (by kernel_rfl) (by kernel_rfl) ?_
      refine L.move rfl rfl ?_
      refine L.move rfl rfl ?_
      refine L.leI rfl rfl rfl ?_
      refine L.move rfl rfl ?_
      refine L.known (t := 34) rfl (show _ = Value.bool true from congrArg Value.bool (decide_eq_true (by omega))) ?_
      refine L.guardT (dj := 34) rfl rfl rfl ?_
      refine L.move rfl rfl ?_
      refine L.guardT (dj := 34) rfl rfl rfl ?_
      refine L.move rfl rfl ?_
      refine L.guardT (dj := 34) rfl rfl rfl ?_
      refine L.move rfl rfl ?_
      refine L.guardT (dj := 34) rfl rfl rfl ?_
      refine L.idxG (i := ia) rfl Try.underlying34 sz28 rfl rfl (by first | rfl | omega | (simp; done)) qI ?_
      refine L.guardT (dj := 34) rfl rfl rfl ?_
      refine L.loadA rfl ag28 rfl (CellsN.ofOwn qM (map_get hg0) hw0) ?_
      refine L.guardT (dj := 34) rfl rfl rfl ?_
      refine L.move rfl rfl ?_
      refine L.guardT (dj := 34) rfl rfl rfl ?_
      refine L.move rfl rfl ?_
      refine L.guardT (dj := 34) rfl rfl rfl ?_
      refine L.idxG (i := i) rfl Try.underlying34 sz28 rfl rfl (by first | rfl | omega | (simp; done)) qI ?_
      refine L.guardT (dj := 34) rfl rfl rfl ?_
      refine L.loadA rfl ag28 rfl (CellsN.ofOwn qM (map_get hg1) hw1) ?_
      refine L.guardT (dj := 34) rfl rfl rfl ?_
      refine L.callVF rfl rfl (evs.cons rfl <| evs.cons rfl <| evs.nil) qD qS (hc (gd zs ia) (gd zs i)) (by rintro u D1 M1 ⟨rfl, rfl, rfl⟩; exact ⟨rfl, _, qA, qF⟩) ?_
      refine L.guardT (dj := 34) rfl rfl rfl ?_
      refine L.ltI rfl rfl rfl ?_
      refine L.guardT (dj := 34) rfl rfl rfl ?_
      refine L.notB rfl rfl ?_
      refine L.pickT rfl rfl rfl ?_
      refine L.nilQ ?_
      refine T.thenN ?_
      refine T.cond rfl (fun h47 => ?_) (fun h47 => ?_)
      · try simp only [decide_eq_true_eq, decide_eq_false_iff_not, Bool.not_eq_true', Bool.not_eq_false', Bool.and_eq_true, Bool.or_eq_true] at h47
        refine T.skip ?_
        refine T.thenN ?_
        refine T.block ?_
        refine T.region ?_
        refine L.move rfl rfl ?_
        refine L.addN rfl rfl rfl (by omega) ?_
        refine L.assign rfl rfl ?_
        refine L.nil ?_
        refine T.blkN ?_
        refine T.thenN ?_
        exact T.back ⟨i + 1, ⟨by omega, hE.up (by omega) h47⟩, rfl, rfl, rfl, rfl⟩ qI (.cons (t := 11) rfl <| SubK.nil _) (.cons (t := 0) rfl <| .cons (t := 1) rfl <| .cons (t := 4) rfl <| .cons (t := 12) rfl <| SubK.nil _) qD qD qF
      · try simp only [decide_eq_true_eq, decide_eq_false_iff_not, Bool.not_eq_true', Bool.not_eq_false', Bool.and_eq_true, Bool.or_eq_true] at h47
        refine T.exit ?_
        refine T.thenX ?_
        refine T.thenX ?_
        refine T.blkX ?_
        refine T.thenN ?_
        exact T.toJoin ⟨i, ⟨hi0, hE, fun _ => h47⟩, rfl, rfl, rfl⟩ (.cons (t := 11) rfl <| SubK.nil _) (.cons (t := 0) rfl <| .cons (t := 1) rfl <| .cons (t := 4) rfl <| .cons (t := 12) rfl <| SubK.nil _) qD qD qF
  rintro _ _ _ ⟨i, ⟨hi0, hE, hx⟩, rfl, rfl, rfl⟩
  refine T.norm3 qA qA qA ?_
  have hr := hE.rng
  refine T.thenN ?_
  refine T.seq ?_
  refine T.cutC (fun K' D' M' => ∃ (j : Nat), (j ≤ j0 ∧ PeI cf zs ia ib i j ∧ (i ≤ j → cf (gd zs ia) (gd zs i) < 0) ∧ (i ≤ j → ¬ cf (gd zs ia) (gd zs j) < 0)) ∧ K' = [(12, .int .i64 (j : Int))] ∧ D' = [] ∧ M' = [own 32 28 (some ⟨pb, po, none⟩) len cap ((zs).map iC)]) (M0 := [own 32 28 (some ⟨pb, po, none⟩) len cap ((zs).map iC)]) (.cons (t := 0) rfl <| .cons (t := 1) rfl <| .cons (t := 4) rfl <| .cons (t := 11) rfl <| SubK.nil _) qS ?_ ?_
  · skip
    refine T.block ?_
    refine T.loop (fun K' D' M' μ => ∃ (j : Nat), (j ≤ j0 ∧ PeI cf zs ia ib i j ∧ (i ≤ j → cf (gd zs ia) (gd zs i) < 0)) ∧ K' = [(12, .int .i64 (j : Int))] ∧ D' = [] ∧ M' = [own 32 28 (some ⟨pb, po, none⟩) len cap ((zs).map iC)] ∧ μ = j + 1 - i) (.cons (t := 0) rfl <| .cons (t := 1) rfl <| .cons (t := 4) rfl <| .cons (t := 11) rfl <| SubK.nil _) (⟨j0, ⟨Nat.le_refl _, hE, hx⟩, rfl, rfl, rfl, rfl⟩) (.cons (t := 12) rfl <| SubK.nil _) qD qS ?_
    rintro K1 D1 M1 m1 ⟨j, ⟨hj0, hE, hx⟩, rfl, rfl, rfl, rfl⟩
    refine T.norm3 qA qA qA ?_
    have hr := hE.rng
    refine T.seq ?_
    refine T.seq ?_
    rcases Nat.lt_or_ge j i with hji | hji
    · skip
      refine T.regionQ (by kernel_rfl) (by kernel_rfl) ?_
      refine L.move rfl rfl ?_
      refine L.move rfl rfl ?_
      refine L.leI rfl rfl rfl ?_
      refine L.move rfl rfl ?_
      refine L.known (t := 53) rfl (show _ = Value.bool false from congrArg Value.bool (decide_eq_false (by omega))) ?_
      refine L.guardF (dj := 53) (c := false) rfl rfl rfl rfl rfl (by decide) ?_
      refine L.guardF (dj := 53) (c := false) rfl rfl rfl rfl rfl (by decide) ?_
      refine L.guardF (dj := 53) (c := false) rfl rfl rfl rfl rfl (by decide) ?_
      refine L.guardF (dj := 53) (c := false) rfl rfl rfl rfl rfl (by decide) ?_
      refine L.guardF (dj := 53) (c := false) rfl rfl rfl rfl rfl (by decide) ?_
      refine L.guardF (dj := 53) (c := false) rfl rfl rfl rfl rfl (by decide) ?_
      refine L.guardF (dj := 53) (c := false) rfl rfl rfl rfl rfl (by decide) ?_
      refine L.guardF (dj := 53) (c := false) rfl rfl rfl rfl rfl (by decide) ?_
      refine L.guardF (dj := 53) (c := false) rfl rfl rfl rfl rfl (by decide) ?_
      refine L.guardF (dj := 53) (c := false) rfl rfl rfl rfl rfl (by decide) ?_
      refine L.guardF (dj := 53) (c := false) rfl rfl rfl rfl rfl (by decide) ?_
      refine L.pickF rfl rfl rfl ?_
      refine L.nilQ ?_
      refine T.thenN ?_
      refine T.condF rfl rfl ?_
      refine T.exit ?_
      refine T.thenX ?_
      refine T.thenX ?_
      refine T.blkX ?_
      refine T.thenN ?_
      exact T.toJoin ⟨j, ⟨hj0, hE, hx, fun e => absurd e (by omega)⟩, rfl, rfl, rfl⟩ (.cons (t := 12) rfl <| SubK.nil _) (.cons (t := 0) rfl <| .cons (t := 1) rfl <| .cons (t := 4) rfl <| .cons (t := 11) rfl <| SubK.nil _) qD qD qF
    · skip
      have hg0 : zs[ia]? = some (gd zs (ia)) := gd_get (by omega)
      have hw0 := iC_len (gd zs (ia))
      have hg1 : zs[j]? = some (gd zs (j)) := gd_get (by omega)
      have hw1 := iC_len (gd zs (j))
      refine T.regionQ (by kernel_rfl) (by kernel_rfl) ?_
      refine L.move rfl rfl ?_
      refine L.move rfl rfl ?_
      refine L.leI rfl rfl rfl ?_
      refine L.move rfl rfl ?_
      refine L.known (t := 53) rfl (show _ = Value.bool true from congrArg Value.bool (decide_eq_true (by omega))) ?_
      refine L.guardT (dj := 53) rfl rfl rfl ?_
      refine L.move rfl rfl ?_
      refine L.guardT (dj := 53) rfl rfl rfl ?_
      refine L.move rfl rfl ?_
      refine L.guardT (dj := 53) rfl rfl rfl ?_
      refine L.move rfl rfl ?_
      refine L.guardT (dj := 53) rfl rfl rfl ?_
      refine L.idxG (i := ia) rfl Try.underlying34 sz28 rfl rfl (by first | rfl | omega | (simp; done)) qI ?_
      refine L.guardT (dj := 53) rfl rfl rfl ?_
      refine L.loadA rfl ag28 rfl (CellsN.ofOwn qM (map_get hg0) hw0) ?_
      refine L.guardT (dj := 53) rfl rfl rfl ?_
      refine L.move rfl rfl ?_
      refine L.guardT (dj := 53) rfl rfl rfl ?_
      refine L.move rfl rfl ?_
      refine L.guardT (dj := 53) rfl rfl rfl ?_
      refine L.idxG (i := j) rfl Try.underlying34 sz28 rfl rfl (by first | rfl | omega | (simp; done)) qI ?_
      refine L.guardT (dj := 53) rfl rfl rfl ?_
      refine L.loadA rfl ag28 rfl (CellsN.ofOwn qM (map_get hg1) hw1) ?_
      refine L.guardT (dj := 53) rfl rfl rfl ?_
      refine L.callVF rfl rfl (evs.cons rfl <| evs.cons rfl <| evs.nil) qD qS (hc (gd zs ia) (gd zs j)) (by rintro u D1 M1 ⟨rfl, rfl, rfl⟩; exact ⟨rfl, _, qA, qF⟩) ?_
      refine L.guardT (dj := 53) rfl rfl rfl ?_
      refine L.ltI rfl rfl rfl ?_
      refine L.pickT rfl rfl rfl ?_
      refine L.nilQ ?_
      refine T.thenN ?_
      refine T.cond rfl (fun h65 => ?_) (fun h65 => ?_)
      · try simp only [decide_eq_true_eq, decide_eq_false_iff_not, Bool.not_eq_true', Bool.not_eq_false', Bool.and_eq_true, Bool.or_eq_true] at h65
        refine T.skip ?_
        refine T.thenN ?_
        refine T.block ?_
        refine T.region ?_
        refine L.move rfl rfl ?_
        refine L.subN rfl rfl rfl (by omega) ?_
        refine L.known (t := 67) (u := .int .i64 ((j - 1 : Nat) : Int)) rfl (congrArg (Value.int .i64) (by omega)) ?_
        refine L.assign rfl rfl ?_
        refine L.nil ?_
        refine T.blkN ?_
        refine T.thenN ?_
        exact T.back ⟨j - 1, ⟨by omega, hE.down (by omega) h65, fun _ => hx (by omega)⟩, rfl, rfl, rfl, rfl⟩ qI (.cons (t := 12) rfl <| SubK.nil _) (.cons (t := 0) rfl <| .cons (t := 1) rfl <| .cons (t := 4) rfl <| .cons (t := 11) rfl <| SubK.nil _) qD qD qF
      · try simp only [decide_eq_true_eq, decide_eq_false_iff_not, Bool.not_eq_true', Bool.not_eq_false', Bool.and_eq_true, Bool.or_eq_true] at h65
        refine T.exit ?_
        refine T.thenX ?_
        refine T.thenX ?_
        refine T.blkX ?_
        refine T.thenN ?_
        exact T.toJoin ⟨j, ⟨hj0, hE, hx, fun _ => h65⟩, rfl, rfl, rfl⟩ (.cons (t := 12) rfl <| SubK.nil _) (.cons (t := 0) rfl <| .cons (t := 1) rfl <| .cons (t := 4) rfl <| .cons (t := 11) rfl <| SubK.nil _) qD qD qF
  rintro _ _ _ ⟨j, ⟨hj0, hE, hx, hy⟩, rfl, rfl, rfl⟩
  refine T.norm3 qA qA qA ?_
  have hr := hE.rng
  refine T.thenN ?_
  refine T.seq ?_
  refine T.seq ?_
  refine T.region ?_
  refine L.move rfl rfl ?_
  refine L.move rfl rfl ?_
  refine L.gtI rfl rfl rfl ?_
  refine L.nil ?_
  refine T.thenN ?_
  refine T.cond rfl (fun h70 => ?_) (fun h70 => ?_)
  · try simp only [decide_eq_true_eq, decide_eq_false_iff_not, Bool.not_eq_true', Bool.not_eq_false', Bool.and_eq_true, Bool.or_eq_true] at h70
    refine T.exit ?_
    refine T.thenX ?_
    refine T.blkY rfl ?_
    refine T.thenX ?_
    refine T.blkX ?_
    refine T.thenN ?_
    refine T.seq ?_
    refine T.region ?_
    refine L.move rfl rfl ?_
    refine L.assign rfl rfl ?_
    refine L.nil ?_
    refine T.thenN ?_
    refine T.ret ?_
    exact T.ret1 rfl rfl ⟨zs, i, rfl, hP, by omega, he, fun p p1 p2 => (Decidable.byCases (fun q : ia < p => hE.lo p q p2) (fun q => by rw [show p = ia by omega]; exact hI _)), fun q q1 q2 => hE.hi q (by omega) q2, rfl, rfl⟩ qD qF
  · try simp only [decide_eq_true_eq, decide_eq_false_iff_not, Bool.not_eq_true', Bool.not_eq_false', Bool.and_eq_true, Bool.or_eq_true] at h70
    refine T.skip ?_
    refine T.thenN ?_
    refine T.seq ?_
    have hg0 : zs[i]? = some (gd zs (i)) := gd_get (by omega)
    have hw0 := iC_len (gd zs (i))
    have hg1 : zs[j]? = some (gd zs (j)) := gd_get (by omega)
    have hw1 := iC_len (gd zs (j))
    refine T.regionA (clsL [1, 1, 1, 1, 1, 1, 1, 0, 1, 1, 1, 0, 1, 2, 1, 2]) (by kernel_rfl) ?_
    refine A.takeP (i := 0) rfl rfl rfl rfl (by kernel_rfl) (by kernel_rfl) (by kernel_rfl) rfl qD ?_
    refine L.move rfl rfl ?_
    refine A.took ?_
    refine A.takeP (i := 1) rfl rfl rfl rfl (by kernel_rfl) (by kernel_rfl) (by kernel_rfl) rfl qD ?_
    refine L.move rfl rfl ?_
    refine A.took ?_
    refine A.takeP (i := 2) rfl rfl rfl rfl (by kernel_rfl) (by kernel_rfl) (by kernel_rfl) rfl qD ?_
    refine L.move rfl rfl ?_
    refine A.took ?_
    refine A.takeP (i := 3) rfl rfl rfl rfl (by kernel_rfl) (by kernel_rfl) (by kernel_rfl) rfl qD ?_
    refine L.move rfl rfl ?_
    refine A.took ?_
    refine A.takeP (i := 4) rfl rfl rfl rfl (by kernel_rfl) (by kernel_rfl) (by kernel_rfl) rfl qD ?_
    refine L.move rfl rfl ?_
    refine A.took ?_
    refine A.takeP (i := 5) rfl rfl rfl rfl (by kernel_rfl) (by kernel_rfl) (by kernel_rfl) rfl qD ?_
    refine L.move rfl rfl ?_
    refine A.took ?_
    refine A.takeP (i := 6) rfl rfl rfl rfl (by kernel_rfl) (by kernel_rfl) (by kernel_rfl) rfl qD ?_
    refine L.idxG (i := j) rfl Try.underlying34 sz28 rfl rfl (by first | rfl | omega | (simp; done)) qI ?_
    refine A.took ?_
    refine A.takeP (i := 8) rfl rfl rfl rfl (by kernel_rfl) (by kernel_rfl) (by kernel_rfl) rfl qD ?_
    refine L.move rfl rfl ?_
    refine A.took ?_
    refine A.takeP (i := 9) rfl rfl rfl rfl (by kernel_rfl) (by kernel_rfl) (by kernel_rfl) rfl qD ?_
    refine L.move rfl rfl ?_
    refine A.took ?_
    refine A.takeP (i := 10) rfl rfl rfl rfl (by kernel_rfl) (by kernel_rfl) (by kernel_rfl) rfl qD ?_
    refine L.idxG (i := i) rfl Try.underlying34 sz28 rfl rfl (by first | rfl | omega | (simp; done)) qI ?_
    refine A.took ?_
    refine A.take (i := 7) rfl rfl rfl rfl (by kernel_rfl) (by kernel_rfl) (by kernel_rfl) (by kernel_rfl) rfl qD qF ?_
    refine L.loadA rfl ag28 rfl (CellsN.ofOwn qM (map_get hg1) hw1) ?_
    refine A.took ?_
    refine A.take (i := 11) rfl rfl rfl rfl (by kernel_rfl) (by kernel_rfl) (by kernel_rfl) (by kernel_rfl) rfl qD qF ?_
    refine L.loadA rfl ag28 rfl (CellsN.ofOwn qM (map_get hg0) hw0) ?_
    refine A.took ?_
    refine A.takeP (i := 12) rfl rfl rfl rfl (by kernel_rfl) (by kernel_rfl) (by kernel_rfl) rfl qD ?_
    refine L.idxG (i := i) rfl Try.underlying34 sz28 rfl rfl (by first | rfl | omega | (simp; done)) qI ?_
    refine A.took ?_
    refine A.branch (is := [13]) (by kernel_rfl) (by decide) (Each.cons rfl ?_ <| Each.nil) 
    refine L.storeOA (i) ag28 rfl (by first | rfl | omega | (simp; done)) rfl qL qO qP qI ?_
    refine A.backT rfl qD ?_
    refine A.takeP (i := 14) rfl rfl rfl rfl (by kernel_rfl) (by kernel_rfl) (by kernel_rfl) rfl qD ?_
    refine L.idxG (i := j) rfl Try.underlying34 sz28 rfl rfl (by first | rfl | omega | (simp; done)) qI ?_
    refine A.took ?_
    refine A.branch (is := [15]) (by kernel_rfl) (by decide) (Each.cons rfl ?_ <| Each.nil) 
    refine L.storeOA (j) ag28 rfl (by first | rfl | omega | (simp; done)) rfl qL qO qP qI ?_
    refine A.backT rfl qD ?_
    refine A.done (by kernel_rfl) ?_
    refine T.ownEq _ ((sw zs (i) (j)).map iC) qP (by rw [sw, List.map_set, List.map_set]) ?_
    refine T.thenN ?_
    refine T.seq ?_
    refine T.region ?_
    refine L.move rfl rfl ?_
    refine L.addN rfl rfl rfl (by omega) ?_
    refine L.assign rfl rfl ?_
    refine L.nil ?_
    refine T.thenN ?_
    refine T.region ?_
    refine L.move rfl rfl ?_
    refine L.subN rfl rfl rfl (by omega) ?_
    refine L.known (t := 88) (u := .int .i64 ((j - 1 : Nat) : Int)) rfl (congrArg (Value.int .i64) (by omega)) ?_
    refine L.assign rfl rfl ?_
    refine L.nil ?_
    refine T.blkN ?_
    refine T.thenN ?_
    exact T.back ⟨i + 1, j - 1, sw zs i j, ⟨hP.trans (.sw (by omega) (by omega) (by omega) (by omega) (by omega)), hE.swap (by omega) (by omega) (hx (by omega)) (hy (by omega)), (by rw [gd_sw (by omega) (by omega), if_neg (by omega), if_neg (by omega)]; exact he)⟩, rfl, rfl, rfl, rfl⟩ qI (.cons (t := 11) rfl <| .cons (t := 12) rfl <| SubK.nil _) (.cons (t := 0) rfl <| .cons (t := 1) rfl <| .cons (t := 4) rfl <| SubK.nil _) qD qD qF
set_option maxHeartbeats 1600000 in
theorem parti_spec {g pb po len cap : Nat} {cf : ID32 → ID32 → Int} {xs : List ID32} (hO : SWO cf) (hI : ∀ x : ID32, ¬ cf x x < 0) (hc : ∀ x y : ID32, Spec Try.prog g [.agg (iC x).toArray, .agg (iC y).toArray] [] [] (fun u D' M' => u = .int .i64 (cf x y) ∧ D' = [] ∧ M' = [])) {ia ib pv : Nat} (hpv : ia ≤ pv ∧ pv < ib) (hib : ib ≤ len) (hb : len ≤ 60000) : Spec Try.prog 60 [.slice (some ⟨pb, po, none⟩) len cap, .int .i64 (ia : Int), .int .i64 (ib : Int), .int .i64 (pv : Int), fnV g []] [] [own 32 28 (some ⟨pb, po, none⟩) len cap ((xs).map iC)] (fun v D' M' => ∃ (ys : List ID32) (m : Nat) (w : Bool), v = .tuple #[.int .i64 (m : Int), .bool w] ∧ (PI ia ib xs ys) ∧ (ia ≤ m ∧ m < ib) ∧ (Part cf ys ia m ib) ∧ D' = [] ∧ M' = [own 32 28 (some ⟨pb, po, none⟩) len cap ((ys).map iC)]) := by
  refine Spec.intro (n := 178) Try.func60 rfl rfl (by decide) (Nat.le_of_ble_eq_true rfl) rfl (fun _ => qA) (fun _ => qA) ?_
  intro σ D M
  refine T.ownLen qM (fun hl hcc => ?_)
  rw [List.length_map] at hl
  refine T.seq ?_
  refine T.region ?_
  refine L.assign rfl rfl ?_
  refine L.assign rfl rfl ?_
  refine L.nil ?_
  refine T.thenN ?_
  refine T.seq ?_
  have hg0 : xs[ia]? = some (gd xs (ia)) := gd_get (by omega)
  have hw0 := iC_len (gd xs (ia))
  have hg1 : xs[pv]? = some (gd xs (pv)) := gd_get (by omega)
  have hw1 := iC_len (gd xs (pv))
  refine T.regionA (clsL [1, 1, 1, 1, 1, 1, 1, 0, 1, 1, 1, 0, 1, 2, 1, 2]) (by kernel_rfl) ?_
  refine A.takeP (i := 0) rfl rfl rfl rfl (by kernel_rfl) (by kernel_rfl) (by kernel_rfl) rfl qD ?_
  refine L.move rfl rfl ?_
  refine A.took ?_
  refine A.takeP (i := 1) rfl rfl rfl rfl (by kernel_rfl) (by kernel_rfl) (by kernel_rfl) rfl qD ?_
  refine L.move rfl rfl ?_
  refine A.took ?_
  refine A.takeP (i := 2) rfl rfl rfl rfl (by kernel_rfl) (by kernel_rfl) (by kernel_rfl) rfl qD ?_
  refine L.move rfl rfl ?_
  refine A.took ?_
  refine A.takeP (i := 3) rfl rfl rfl rfl (by kernel_rfl) (by kernel_rfl) (by kernel_rfl) rfl qD ?_
  refine L.move rfl rfl ?_
  refine A.took ?_
  refine A.takeP (i := 4) rfl rfl rfl rfl (by kernel_rfl) (by kernel_rfl) (by kernel_rfl) rfl qD ?_
  refine L.move rfl rfl ?_
  refine A.took ?_
  refine A.takeP (i := 5) rfl rfl rfl rfl (by kernel_rfl) (by kernel_rfl) (by kernel_rfl) rfl qD ?_
  refine L.move rfl rfl ?_
  refine A.took ?_
  refine A.takeP (i := 6) rfl rfl rfl rfl (by kernel_rfl) (by kernel_rfl) (by kernel_rfl) rfl qD ?_
  refine L.idxG (i := pv) rfl Try.underlying34 sz28 rfl rfl (by first | rfl | omega | (simp; done)) qI ?_
  refine A.took ?_
  refine A.takeP (i := 8) rfl rfl rfl rfl (by kernel_rfl) (by kernel_rfl) (by kernel_rfl) rfl qD ?_
  refine L.move rfl rfl ?_
  refine A.took ?_
  refine A.takeP (i := 9) rfl rfl rfl rfl (by kernel_rfl) (by kernel_rfl) (by kernel_rfl) rfl qD ?_
  refine L.move rfl rfl ?_
  refine A.took ?_
  refine A.takeP (i := 10) rfl rfl rfl rfl (by kernel_rfl) (by kernel_rfl) (by kernel_rfl) rfl qD ?_
  refine L.idxG (i := ia) rfl Try.underlying34 sz28 rfl rfl (by first | rfl | omega | (simp; done)) qI ?_
  refine A.took ?_
  refine A.take (i := 7) rfl rfl rfl rfl (by kernel_rfl) (by kernel_rfl) (by kernel_rfl) (by kernel_rfl) rfl qD qF ?_
  refine L.loadA rfl ag28 rfl (CellsN.ofOwn qM (map_get hg1) hw1) ?_
  refine A.took ?_
  refine A.take (i := 11) rfl rfl rfl rfl (by kernel_rfl) (by kernel_rfl) (by kernel_rfl) (by kernel_rfl) rfl qD qF ?_
  refine L.loadA rfl ag28 rfl (CellsN.ofOwn qM (map_get hg0) hw0) ?_
  refine A.took ?_
  refine A.takeP (i := 12) rfl rfl rfl rfl (by kernel_rfl) (by kernel_rfl) (by kernel_rfl) rfl qD ?_
  refine L.idxG (i := ia) rfl Try.underlying34 sz28 rfl rfl (by first | rfl | omega | (simp; done)) qI ?_
  refine A.took ?_
  refine A.branch (is := [13]) (by kernel_rfl) (by decide) (Each.cons rfl ?_ <| Each.nil) 
  refine L.storeOA (ia) ag28 rfl (by first | rfl | omega | (simp; done)) rfl qL qO qP qI ?_
  refine A.backT rfl qD ?_
  refine A.takeP (i := 14) rfl rfl rfl rfl (by kernel_rfl) (by kernel_rfl) (by kernel_rfl) rfl qD ?_
  refine L.idxG (i := pv) rfl Try.underlying34 sz28 rfl rfl (by first | rfl | omega | (simp; done)) qI ?_
  refine A.took ?_
  refine A.branch (is := [15]) (by kernel_rfl) (by decide) (Each.cons rfl ?_ <| Each.nil) 
  refine L.storeOA (pv) ag28 rfl (by first | rfl | omega | (simp; done)) rfl qL qO qP qI ?_
  refine A.backT rfl qD ?_
  refine A.done (by kernel_rfl) ?_
  refine T.ownEq _ ((sw xs (ia) (pv)).map iC) qP (by rw [sw, List.map_set, List.map_set]) ?_
  obtain ⟨zs, hzs⟩ : ∃ zs, zs = sw xs ia pv := ⟨_, rfl⟩
  have hP : PI ia ib xs zs := by rw [hzs]; exact .sw (by omega) (by omega) (by omega) (by omega) (by omega)
  have hzl := hP.len
  rw [← hzs]
  refine T.thenN ?_
  refine T.seq ?_
  refine T.region ?_
  refine L.move rfl rfl ?_
  refine L.addN rfl rfl rfl (by omega) ?_
  refine L.move rfl rfl ?_
  refine L.subN rfl rfl rfl (by omega) ?_
  refine L.known (t := 31) (u := .int .i64 ((ib - 1 : Nat) : Int)) rfl (congrArg (Value.int .i64) (by omega)) ?_
  refine L.assign rfl rfl ?_
  refine L.assign rfl rfl ?_
  refine L.nil ?_
  obtain ⟨j1, hj⟩ : ∃ j, j = ib - 1 := ⟨_, rfl⟩
  rw [← hj]
  have hE : PtI cf zs ia ib (ia + 1) j1 := by rw [hj]; exact .start (by omega)
  refine T.thenN ?_
  refine T.seq ?_
  refine T.cutC (fun K' D' M' => ∃ (i : Nat), (ia + 1 ≤ i ∧ PtI cf zs ia ib i j1 ∧ (i ≤ j1 → ¬ cf (gd zs i) (gd zs ia) < 0)) ∧ K' = [(12, .int .i64 (i : Int))] ∧ D' = [] ∧ M' = [own 32 28 (some ⟨pb, po, none⟩) len cap ((zs).map iC)]) (M0 := [own 32 28 (some ⟨pb, po, none⟩) len cap ((zs).map iC)]) (.cons (t := 0) rfl <| .cons (t := 1) rfl <| .cons (t := 4) rfl <| .cons (t := 13) rfl <| SubK.nil _) qS ?_ ?_
  · skip
    refine T.block ?_
    refine T.loop (fun K' D' M' μ => ∃ (i : Nat), (ia + 1 ≤ i ∧ PtI cf zs ia ib i j1) ∧ K' = [(12, .int .i64 (i : Int))] ∧ D' = [] ∧ M' = [own 32 28 (some ⟨pb, po, none⟩) len cap ((zs).map iC)] ∧ μ = j1 + 1 - i) (.cons (t := 0) rfl <| .cons (t := 1) rfl <| .cons (t := 4) rfl <| .cons (t := 13) rfl <| SubK.nil _) (⟨ia + 1, ⟨Nat.le_refl _, hE⟩, rfl, rfl, rfl, rfl⟩) (.cons (t := 12) rfl <| SubK.nil _) qD qS ?_
    rintro K1 D1 M1 m1 ⟨i, ⟨hi0, hE⟩, rfl, rfl, rfl, rfl⟩
    refine T.norm3 qA qA qA ?_
    have hr := hE.rng
    refine T.seq ?_
    refine T.seq ?_
    rcases Nat.lt_or_ge j1 i with hji | hji
    · skip
      refine T.regionQ (by kernel_rfl) (by kernel_rfl) ?_
      refine L.move rfl rfl ?_
      refine L.move rfl rfl ?_
      refine L.leI rfl rfl rfl ?_
      refine L.move rfl rfl ?_
      refine L.known (t := 35) rfl (show _ = Value.bool false from congrArg Value.bool (decide_eq_false (by omega))) ?_
      refine L.guardF (dj := 35) (c := false) rfl rfl rfl rfl rfl (by decide) ?_
      refine L.guardF (dj := 35) (c := false) rfl rfl rfl rfl rfl (by decide) ?_
      refine L.guardF (dj := 35) (c := false) rfl rfl rfl rfl rfl (by decide) ?_
      refine L.guardF (dj := 35) (c := false) rfl rfl rfl rfl rfl (by decide) ?_
      refine L.guardF (dj := 35) (c := false) rfl rfl rfl rfl rfl (by decide) ?_
      refine L.guardF (dj := 35) (c := false) rfl rfl rfl rfl rfl (by decide) ?_
      refine L.guardF (dj := 35) (c := false) rfl rfl rfl rfl rfl (by decide) ?_
      refine L.guardF (dj := 35) (c := false) rfl rfl rfl rfl rfl (by decide) ?_
      refine L.guardF (dj := 35) (c := false) rfl rfl rfl rfl rfl (by decide) ?_
      refine L.guardF (dj := 35) (c := false) rfl rfl rfl rfl rfl (by decide) ?_
      refine L.guardF (dj := 35) (c := false) rfl rfl rfl rfl rfl (by decide) ?_
      refine L.pickF rfl rfl rfl ?_
      refine L.nilQ ?_
      refine T.thenN ?_
      refine T.condF rfl rfl ?_
      refine T.exit ?_
      refine T.thenX ?_
      refine T.thenX ?_
      refine T.blkX ?_
      refine T.thenN ?_
      exact T.toJoin ⟨i, ⟨hi0, hE, fun e => absurd e (by omega)⟩, rfl, rfl, rfl⟩ (.cons (t := 12) rfl <| SubK.nil _) (.cons (t := 0) rfl <| .cons (t := 1) rfl <| .cons (t := 4) rfl <| .cons (t := 13) rfl <| SubK.nil _) qD qD qF
    · skip
      have hg0 : zs[i]? = some (gd zs (i)) := gd_get (by omega)
      have hw0 := iC_len (gd zs (i))
      have hg1 : zs[ia]? = some (gd zs (ia)) := gd_get (by omega)
      have hw1 := iC_len (gd zs (ia))
      refine T.regionQ (by kernel_rfl) (by kernel_rfl) ?_
      refine L.move rfl rfl ?_
      refine L.move rfl rfl ?_
      refine L.leI rfl rfl rfl ?_
      refine L.move rfl rfl ?_
      refine L.known (t := 35) rfl (show _ = Value.bool true from congrArg Value.bool (decide_eq_true (by omega))) ?_
      refine L.guardT (dj := 35) rfl rfl rfl ?_
      refine L.move rfl rfl ?_
      refine L.guardT (dj := 35) rfl rfl rfl ?_
      refine L.move rfl rfl ?_
      refine L.guardT (dj := 35) rfl rfl rfl ?_
      refine L.move rfl rfl ?_
      refine L.guardT (dj := 35) rfl rfl rfl ?_
      refine L.idxG (i := i) rfl Try.underlying34 sz28 rfl rfl (by first | rfl | omega | (simp; done)) qI ?_
      refine L.guardT (dj := 35) rfl rfl rfl ?_
      refine L.loadA rfl ag28 rfl (CellsN.ofOwn qM (map_get hg0) hw0) ?_
      refine L.guardT (dj := 35) rfl rfl rfl ?_
      refine L.move rfl rfl ?_
      refine L.guardT (dj := 35) rfl rfl rfl ?_
      refine L.move rfl rfl ?_
      refine L.guardT (dj := 35) rfl rfl rfl ?_
      refine L.idxG (i := ia) rfl Try.underlying34 sz28 rfl rfl (by first | rfl | omega | (simp; done)) qI ?_
      refine L.guardT (dj := 35) rfl rfl rfl ?_
      refine L.loadA rfl ag28 rfl (CellsN.ofOwn qM (map_get hg1) hw1) ?_
      refine L.guardT (dj := 35) rfl rfl rfl ?_
      refine L.callVF rfl rfl (evs.cons rfl <| evs.cons rfl <| evs.nil) qD qS (hc (gd zs i) (gd zs ia)) (by rintro u D1 M1 ⟨rfl, rfl, rfl⟩; exact ⟨rfl, _, qA, qF⟩) ?_
      refine L.guardT (dj := 35) rfl rfl rfl ?_
      refine L.ltI rfl rfl rfl ?_
      refine L.pickT rfl rfl rfl ?_
      refine L.nilQ ?_
      refine T.thenN ?_
      refine T.cond rfl (fun h47 => ?_) (fun h47 => ?_)
      · try simp only [decide_eq_true_eq, decide_eq_false_iff_not, Bool.not_eq_true', Bool.not_eq_false', Bool.and_eq_true, Bool.or_eq_true] at h47
        refine T.skip ?_
        refine T.thenN ?_
        refine T.block ?_
        refine T.region ?_
        refine L.move rfl rfl ?_
        refine L.addN rfl rfl rfl (by omega) ?_
        refine L.assign rfl rfl ?_
        refine L.nil ?_
        refine T.blkN ?_
        refine T.thenN ?_
        exact T.back ⟨i + 1, ⟨by omega, hE.up (by omega) h47⟩, rfl, rfl, rfl, rfl⟩ qI (.cons (t := 12) rfl <| SubK.nil _) (.cons (t := 0) rfl <| .cons (t := 1) rfl <| .cons (t := 4) rfl <| .cons (t := 13) rfl <| SubK.nil _) qD qD qF
      · try simp only [decide_eq_true_eq, decide_eq_false_iff_not, Bool.not_eq_true', Bool.not_eq_false', Bool.and_eq_true, Bool.or_eq_true] at h47
        refine T.exit ?_
        refine T.thenX ?_
        refine T.thenX ?_
        refine T.blkX ?_
        refine T.thenN ?_
        exact T.toJoin ⟨i, ⟨hi0, hE, fun _ => h47⟩, rfl, rfl, rfl⟩ (.cons (t := 12) rfl <| SubK.nil _) (.cons (t := 0) rfl <| .cons (t := 1) rfl <| .cons (t := 4) rfl <| .cons (t := 13) rfl <| SubK.nil _) qD qD qF
  rintro _ _ _ ⟨i, ⟨hi0, hE, hx⟩, rfl, rfl, rfl⟩
  refine T.norm3 qA qA qA ?_
  have hr := hE.rng
  refine T.thenN ?_
  refine T.seq ?_
  refine T.cutC (fun K' D' M' => ∃ (j : Nat), (j ≤ j1 ∧ PtI cf zs ia ib i j ∧ (i ≤ j → ¬ cf (gd zs i) (gd zs ia) < 0) ∧ (i ≤ j → cf (gd zs j) (gd zs ia) < 0)) ∧ K' = [(13, .int .i64 (j : Int))] ∧ D' = [] ∧ M' = [own 32 28 (some ⟨pb, po, none⟩) len cap ((zs).map iC)]) (M0 := [own 32 28 (some ⟨pb, po, none⟩) len cap ((zs).map iC)]) (.cons (t := 0) rfl <| .cons (t := 1) rfl <| .cons (t := 4) rfl <| .cons (t := 12) rfl <| SubK.nil _) qS ?_ ?_
  · skip
    refine T.block ?_
    refine T.loop (fun K' D' M' μ => ∃ (j : Nat), (j ≤ j1 ∧ PtI cf zs ia ib i j ∧ (i ≤ j → ¬ cf (gd zs i) (gd zs ia) < 0)) ∧ K' = [(13, .int .i64 (j : Int))] ∧ D' = [] ∧ M' = [own 32 28 (some ⟨pb, po, none⟩) len cap ((zs).map iC)] ∧ μ = j + 1 - i) (.cons (t := 0) rfl <| .cons (t := 1) rfl <| .cons (t := 4) rfl <| .cons (t := 12) rfl <| SubK.nil _) (⟨j1, ⟨Nat.le_refl _, hE, hx⟩, rfl, rfl, rfl, rfl⟩) (.cons (t := 13) rfl <| SubK.nil _) qD qS ?_
    rintro K1 D1 M1 m1 ⟨j, ⟨hj0, hE, hx⟩, rfl, rfl, rfl, rfl⟩
    refine T.norm3 qA qA qA ?_
    have hr := hE.rng
    refine T.seq ?_
    refine T.seq ?_
    rcases Nat.lt_or_ge j i with hji | hji
    · skip
      refine T.regionQ (by kernel_rfl) (by kernel_rfl) ?_
      refine L.move rfl rfl ?_
      refine L.move rfl rfl ?_
      refine L.leI rfl rfl rfl ?_
      refine L.move rfl rfl ?_
      refine L.known (t := 53) rfl (show _ = Value.bool false from congrArg Value.bool (decide_eq_false (by omega))) ?_
      refine L.guardF (dj := 53) (c := false) rfl rfl rfl rfl rfl (by decide) ?_
      refine L.guardF (dj := 53) (c := false) rfl rfl rfl rfl rfl (by decide) ?_
      refine L.guardF (dj := 53) (c := false) rfl rfl rfl rfl rfl (by decide) ?_
      refine L.guardF (dj := 53) (c := false) rfl rfl rfl rfl rfl (by decide) ?_
      refine L.guardF (dj := 53) (c := false) rfl rfl rfl rfl rfl (by decide) ?_
      refine L.guardF (dj := 53) (c := false) rfl rfl rfl rfl rfl (by decide) ?_
      refine L.guardF (dj := 53) (c := false) rfl rfl rfl rfl rfl (by decide) ?_
      refine L.guardF (dj := 53) (c := false) rfl rfl rfl rfl rfl (by decide) ?_
      refine L.guardF (dj := 53) (c := false) rfl rfl rfl rfl rfl (by decide) ?_
      refine L.guardF (dj := 53) (c := false) rfl rfl rfl rfl rfl (by decide) ?_
      refine L.guardF (dj := 53) (c := false) rfl rfl rfl rfl rfl (by decide) ?_
      refine L.guardF (dj := 53) (c := false) rfl rfl rfl rfl rfl (by decide) ?_
      refine L.pickF rfl rfl rfl ?_
      refine L.nilQ ?_
      refine T.thenN ?_
      refine T.condF rfl rfl ?_
      refine T.exit ?_
      refine T.thenX ?_
      refine T.thenX ?_
      refine T.blkX ?_
      refine T.thenN ?_
      exact T.toJoin ⟨j, ⟨hj0, hE, hx, fun e => absurd e (by omega)⟩, rfl, rfl, rfl⟩ (.cons (t := 13) rfl <| SubK.nil _) (.cons (t := 0) rfl <| .cons (t := 1) rfl <| .cons (t := 4) rfl <| .cons (t := 12) rfl <| SubK.nil _) qD qD qF
    · skip
      have hg0 : zs[j]? = some (gd zs (j)) := gd_get (by omega)
      have hw0 := iC_len (gd zs (j))
      have hg1 : zs[ia]? = some (gd zs (ia)) := gd_get (by omega)
      have hw1 := iC_len (gd zs (ia))
      refine T.regionQ (by kernel_rfl) (by kernel_rfl) ?_
      refine L.move rfl rfl ?_
      refine L.move rfl rfl ?_
      refine L.leI rfl rfl rfl ?_
      refine L.move rfl rfl ?_
      refine L.known (t := 53) rfl (show _ = Value.bool true from congrArg Value.bool (decide_eq_true (by omega))) ?_
      refine L.guardT (dj := 53) rfl rfl rfl ?_
      refine L.move rfl rfl ?_
      refine L.guardT (dj := 53) rfl rfl rfl ?_
      refine L.move rfl rfl ?_
      refine L.guardT (dj := 53) rfl rfl rfl ?_
      refine L.move rfl rfl ?_
      refine L.guardT (dj := 53) rfl rfl rfl ?_
      refine L.idxG (i := j) rfl Try.underlying34 sz28 rfl rfl (by first | rfl | omega | (simp; done)) qI ?_
      refine L.guardT (dj := 53) rfl rfl rfl ?_
      refine L.loadA rfl ag28 rfl (CellsN.ofOwn qM (map_get hg0) hw0) ?_
      refine L.guardT (dj := 53) rfl rfl rfl ?_
      refine L.move rfl rfl ?_
      refine L.guardT (dj := 53) rfl rfl rfl ?_
      refine L.move rfl rfl ?_
      refine L.guardT (dj := 53) rfl rfl rfl ?_
      refine L.idxG (i := ia) rfl Try.underlying34 sz28 rfl rfl (by first | rfl | omega | (simp; done)) qI ?_
      refine L.guardT (dj := 53) rfl rfl rfl ?_
      refine L.loadA rfl ag28 rfl (CellsN.ofOwn qM (map_get hg1) hw1) ?_
      refine L.guardT (dj := 53) rfl rfl rfl ?_
      refine L.callVF rfl rfl (evs.cons rfl <| evs.cons rfl <| evs.nil) qD qS (hc (gd zs j) (gd zs ia)) (by rintro u D1 M1 ⟨rfl, rfl, rfl⟩; exact ⟨rfl, _, qA, qF⟩) ?_
      refine L.guardT (dj := 53) rfl rfl rfl ?_
      refine L.ltI rfl rfl rfl ?_
      refine L.guardT (dj := 53) rfl rfl rfl ?_
      refine L.notB rfl rfl ?_
      refine L.pickT rfl rfl rfl ?_
      refine L.nilQ ?_
      refine T.thenN ?_
      refine T.cond rfl (fun h66 => ?_) (fun h66 => ?_)
      · try simp only [decide_eq_true_eq, decide_eq_false_iff_not, Bool.not_eq_true', Bool.not_eq_false', Bool.and_eq_true, Bool.or_eq_true] at h66
        refine T.skip ?_
        refine T.thenN ?_
        refine T.block ?_
        refine T.region ?_
        refine L.move rfl rfl ?_
        refine L.subN rfl rfl rfl (by omega) ?_
        refine L.known (t := 68) (u := .int .i64 ((j - 1 : Nat) : Int)) rfl (congrArg (Value.int .i64) (by omega)) ?_
        refine L.assign rfl rfl ?_
        refine L.nil ?_
        refine T.blkN ?_
        refine T.thenN ?_
        exact T.back ⟨j - 1, ⟨by omega, hE.down (by omega) h66, fun _ => hx (by omega)⟩, rfl, rfl, rfl, rfl⟩ qI (.cons (t := 13) rfl <| SubK.nil _) (.cons (t := 0) rfl <| .cons (t := 1) rfl <| .cons (t := 4) rfl <| .cons (t := 12) rfl <| SubK.nil _) qD qD qF
      · try simp only [decide_eq_true_eq, decide_eq_false_iff_not, Bool.not_eq_true', Bool.not_eq_false', Bool.and_eq_true, Bool.or_eq_true] at h66
        refine T.exit ?_
        refine T.thenX ?_
        refine T.thenX ?_
        refine T.blkX ?_
        refine T.thenN ?_
        exact T.toJoin ⟨j, ⟨hj0, hE, hx, fun _ => h66⟩, rfl, rfl, rfl⟩ (.cons (t := 13) rfl <| SubK.nil _) (.cons (t := 0) rfl <| .cons (t := 1) rfl <| .cons (t := 4) rfl <| .cons (t := 12) rfl <| SubK.nil _) qD qD qF
  rintro _ _ _ ⟨j, ⟨hj0, hE, hx, hy⟩, rfl, rfl, rfl⟩
  refine T.norm3 qA qA qA ?_
  have hr := hE.rng
  refine T.thenN ?_
  refine T.seq ?_
  refine T.seq ?_
  refine T.region ?_
  refine L.move rfl rfl ?_
  refine L.move rfl rfl ?_
  refine L.gtI rfl rfl rfl ?_
  refine L.nil ?_
  refine T.thenN ?_
  refine T.cond rfl (fun h71 => ?_) (fun h71 => ?_)
  · try simp only [decide_eq_true_eq, decide_eq_false_iff_not, Bool.not_eq_true', Bool.not_eq_false', Bool.and_eq_true, Bool.or_eq_true] at h71
    refine T.seq ?_
    have hg0 : zs[j]? = some (gd zs (j)) := gd_get (by omega)
    have hw0 := iC_len (gd zs (j))
    have hg1 : zs[ia]? = some (gd zs (ia)) := gd_get (by omega)
    have hw1 := iC_len (gd zs (ia))
    refine T.regionA (clsL [1, 1, 1, 1, 1, 1, 1, 0, 1, 1, 1, 0, 1, 2, 1, 2]) (by kernel_rfl) ?_
    refine A.takeP (i := 0) rfl rfl rfl rfl (by kernel_rfl) (by kernel_rfl) (by kernel_rfl) rfl qD ?_
    refine L.move rfl rfl ?_
    refine A.took ?_
    refine A.takeP (i := 1) rfl rfl rfl rfl (by kernel_rfl) (by kernel_rfl) (by kernel_rfl) rfl qD ?_
    refine L.move rfl rfl ?_
    refine A.took ?_
    refine A.takeP (i := 2) rfl rfl rfl rfl (by kernel_rfl) (by kernel_rfl) (by kernel_rfl) rfl qD ?_
    refine L.move rfl rfl ?_
    refine A.took ?_
    refine A.takeP (i := 3) rfl rfl rfl rfl (by kernel_rfl) (by kernel_rfl) (by kernel_rfl) rfl qD ?_
    refine L.move rfl rfl ?_
    refine A.took ?_
    refine A.takeP (i := 4) rfl rfl rfl rfl (by kernel_rfl) (by kernel_rfl) (by kernel_rfl) rfl qD ?_
    refine L.move rfl rfl ?_
    refine A.took ?_
    refine A.takeP (i := 5) rfl rfl rfl rfl (by kernel_rfl) (by kernel_rfl) (by kernel_rfl) rfl qD ?_
    refine L.move rfl rfl ?_
    refine A.took ?_
    refine A.takeP (i := 6) rfl rfl rfl rfl (by kernel_rfl) (by kernel_rfl) (by kernel_rfl) rfl qD ?_
    refine L.idxG (i := ia) rfl Try.underlying34 sz28 rfl rfl (by first | rfl | omega | (simp; done)) qI ?_
    refine A.took ?_
    refine A.takeP (i := 8) rfl rfl rfl rfl (by kernel_rfl) (by kernel_rfl) (by kernel_rfl) rfl qD ?_
    refine L.move rfl rfl ?_
    refine A.took ?_
    refine A.takeP (i := 9) rfl rfl rfl rfl (by kernel_rfl) (by kernel_rfl) (by kernel_rfl) rfl qD ?_
    refine L.move rfl rfl ?_
    refine A.took ?_
    refine A.takeP (i := 10) rfl rfl rfl rfl (by kernel_rfl) (by kernel_rfl) (by kernel_rfl) rfl qD ?_
    refine L.idxG (i := j) rfl Try.underlying34 sz28 rfl rfl (by first | rfl | omega | (simp; done)) qI ?_
    refine A.took ?_
    refine A.take (i := 7) rfl rfl rfl rfl (by kernel_rfl) (by kernel_rfl) (by kernel_rfl) (by kernel_rfl) rfl qD qF ?_
    refine L.loadA rfl ag28 rfl (CellsN.ofOwn qM (map_get hg1) hw1) ?_
    refine A.took ?_
    refine A.take (i := 11) rfl rfl rfl rfl (by kernel_rfl) (by kernel_rfl) (by kernel_rfl) (by kernel_rfl) rfl qD qF ?_
    refine L.loadA rfl ag28 rfl (CellsN.ofOwn qM (map_get hg0) hw0) ?_
    refine A.took ?_
    refine A.takeP (i := 12) rfl rfl rfl rfl (by kernel_rfl) (by kernel_rfl) (by kernel_rfl) rfl qD ?_
    refine L.idxG (i := j) rfl Try.underlying34 sz28 rfl rfl (by first | rfl | omega | (simp; done)) qI ?_
    refine A.took ?_
    refine A.branch (is := [13]) (by kernel_rfl) (by decide) (Each.cons rfl ?_ <| Each.nil) 
    refine L.storeOA (j) ag28 rfl (by first | rfl | omega | (simp; done)) rfl qL qO qP qI ?_
    refine A.backT rfl qD ?_
    refine A.takeP (i := 14) rfl rfl rfl rfl (by kernel_rfl) (by kernel_rfl) (by kernel_rfl) rfl qD ?_
    refine L.idxG (i := ia) rfl Try.underlying34 sz28 rfl rfl (by first | rfl | omega | (simp; done)) qI ?_
    refine A.took ?_
    refine A.branch (is := [15]) (by kernel_rfl) (by decide) (Each.cons rfl ?_ <| Each.nil) 
    refine L.storeOA (ia) ag28 rfl (by first | rfl | omega | (simp; done)) rfl qL qO qP qI ?_
    refine A.backT rfl qD ?_
    refine A.done (by kernel_rfl) ?_
    refine T.ownEq _ ((sw zs (j) (ia)).map iC) qP (by rw [sw, List.map_set, List.map_set]) ?_
    obtain ⟨hp1, hp2, hp3⟩ := hE.end' hO (by omega) (by omega)
    refine T.thenN ?_
    refine T.seq ?_
    refine T.region ?_
    refine L.move rfl rfl ?_
    refine L.assign rfl rfl ?_
    refine L.assign rfl rfl ?_
    refine L.nil ?_
    refine T.thenN ?_
    refine T.ret ?_
    refine T.thenR ?_
    exact T.ret2 rfl rfl rfl ⟨sw zs j ia, j, _, rfl, hP.trans (.sw (by omega) (by omega) (by omega) (by omega) (by omega)), ⟨hp2, hp3⟩, hp1, rfl, rfl⟩ qD qF
  · try simp only [decide_eq_true_eq, decide_eq_false_iff_not, Bool.not_eq_true', Bool.not_eq_false', Bool.and_eq_true, Bool.or_eq_true] at h71
    refine T.skip ?_
    refine T.thenN ?_
    refine T.seq ?_
    have hg0 : zs[i]? = some (gd zs (i)) := gd_get (by omega)
    have hw0 := iC_len (gd zs (i))
    have hg1 : zs[j]? = some (gd zs (j)) := gd_get (by omega)
    have hw1 := iC_len (gd zs (j))
    refine T.regionA (clsL [1, 1, 1, 1, 1, 1, 1, 0, 1, 1, 1, 0, 1, 2, 1, 2]) (by kernel_rfl) ?_
    refine A.takeP (i := 0) rfl rfl rfl rfl (by kernel_rfl) (by kernel_rfl) (by kernel_rfl) rfl qD ?_
    refine L.move rfl rfl ?_
    refine A.took ?_
    refine A.takeP (i := 1) rfl rfl rfl rfl (by kernel_rfl) (by kernel_rfl) (by kernel_rfl) rfl qD ?_
    refine L.move rfl rfl ?_
    refine A.took ?_
    refine A.takeP (i := 2) rfl rfl rfl rfl (by kernel_rfl) (by kernel_rfl) (by kernel_rfl) rfl qD ?_
    refine L.move rfl rfl ?_
    refine A.took ?_
    refine A.takeP (i := 3) rfl rfl rfl rfl (by kernel_rfl) (by kernel_rfl) (by kernel_rfl) rfl qD ?_
    refine L.move rfl rfl ?_
    refine A.took ?_
    refine A.takeP (i := 4) rfl rfl rfl rfl (by kernel_rfl) (by kernel_rfl) (by kernel_rfl) rfl qD ?_
    refine L.move rfl rfl ?_
    refine A.took ?_
    refine A.takeP (i := 5) rfl rfl rfl rfl (by kernel_rfl) (by kernel_rfl) (by kernel_rfl) rfl qD ?_
    refine L.move rfl rfl ?_
    refine A.took ?_
    refine A.takeP (i := 6) rfl rfl rfl rfl (by kernel_rfl) (by kernel_rfl) (by kernel_rfl) rfl qD ?_
    refine L.idxG (i := j) rfl Try.underlying34 sz28 rfl rfl (by first | rfl | omega | (simp; done)) qI ?_
    refine A.took ?_
    refine A.takeP (i := 8) rfl rfl rfl rfl (by kernel_rfl) (by kernel_rfl) (by kernel_rfl) rfl qD ?_
    refine L.move rfl rfl ?_
    refine A.took ?_
    refine A.takeP (i := 9) rfl rfl rfl rfl (by kernel_rfl) (by kernel_rfl) (by kernel_rfl) rfl qD ?_
    refine L.move rfl rfl ?_
    refine A.took ?_
    refine A.takeP (i := 10) rfl rfl rfl rfl (by kernel_rfl) (by kernel_rfl) (by kernel_rfl) rfl qD ?_
    refine L.idxG (i := i) rfl Try.underlying34 sz28 rfl rfl (by first | rfl | omega | (simp; done)) qI ?_
    refine A.took ?_
    refine A.take (i := 7) rfl rfl rfl rfl (by kernel_rfl) (by kernel_rfl) (by kernel_rfl) (by kernel_rfl) rfl qD qF ?_
    refine L.loadA rfl ag28 rfl (CellsN.ofOwn qM (map_get hg1) hw1) ?_
    refine A.took ?_
    refine A.take (i := 11) rfl rfl rfl rfl (by kernel_rfl) (by kernel_rfl) (by kernel_rfl) (by kernel_rfl) rfl qD qF ?_
    refine L.loadA rfl ag28 rfl (CellsN.ofOwn qM (map_get hg0) hw0) ?_
    refine A.took ?_
    refine A.takeP (i := 12) rfl rfl rfl rfl (by kernel_rfl) (by kernel_rfl) (by kernel_rfl) rfl qD ?_
    refine L.idxG (i := i) rfl Try.underlying34 sz28 rfl rfl (by first | rfl | omega | (simp; done)) qI ?_
    refine A.took ?_
    refine A.branch (is := [13]) (by kernel_rfl) (by decide) (Each.cons rfl ?_ <| Each.nil) 
    refine L.storeOA (i) ag28 rfl (by first | rfl | omega | (simp; done)) rfl qL qO qP qI ?_
    refine A.backT rfl qD ?_
    refine A.takeP (i := 14) rfl rfl rfl rfl (by kernel_rfl) (by kernel_rfl) (by kernel_rfl) rfl qD ?_
    refine L.idxG (i := j) rfl Try.underlying34 sz28 rfl rfl (by first | rfl | omega | (simp; done)) qI ?_
    refine A.took ?_
    refine A.branch (is := [15]) (by kernel_rfl) (by decide) (Each.cons rfl ?_ <| Each.nil) 
    refine L.storeOA (j) ag28 rfl (by first | rfl | omega | (simp; done)) rfl qL qO qP qI ?_
    refine A.backT rfl qD ?_
    refine A.done (by kernel_rfl) ?_
    refine T.ownEq _ ((sw zs (i) (j)).map iC) qP (by rw [sw, List.map_set, List.map_set]) ?_
    refine T.thenN ?_
    refine T.seq ?_
    refine T.region ?_
    refine L.move rfl rfl ?_
    refine L.addN rfl rfl rfl (by omega) ?_
    refine L.assign rfl rfl ?_
    refine L.nil ?_
    refine T.thenN ?_
    refine T.seq ?_
    refine T.region ?_
    refine L.move rfl rfl ?_
    refine L.subN rfl rfl rfl (by omega) ?_
    refine L.known (t := 104) (u := .int .i64 ((j - 1 : Nat) : Int)) rfl (congrArg (Value.int .i64) (by omega)) ?_
    refine L.assign rfl rfl ?_
    refine L.nil ?_
    refine T.thenN ?_
    refine T.seq ?_
    refine T.block ?_
    refine T.loop (fun K' D' M' μ => ∃ (i0 j0 : Nat) (zs : List ID32), (PI ia ib xs zs ∧ PtI cf zs ia ib i0 j0) ∧ K' = [(12, .int .i64 (i0 : Int)), (13, .int .i64 (j0 : Int))] ∧ D' = [] ∧ M' = [own 32 28 (some ⟨pb, po, none⟩) len cap ((zs).map iC)] ∧ μ = j0 + 1 - i0) (.cons (t := 0) rfl <| .cons (t := 1) rfl <| .cons (t := 4) rfl <| SubK.nil _) (⟨i + 1, j - 1, sw zs i j, ⟨hP.trans (.sw (by omega) (by omega) (by omega) (by omega) (by omega)), hE.swap (by omega) (by omega) (hx (by omega)) (hy (by omega))⟩, rfl, rfl, rfl, rfl⟩) (.cons (t := 12) rfl <| .cons (t := 13) rfl <| SubK.nil _) qD qS ?_
    rintro K1 D1 M1 m1 ⟨i0, j0, zs, ⟨hP, hE⟩, rfl, rfl, rfl, rfl⟩
    refine T.norm3 qA qA qA ?_
    have hzl := hP.len
    have hr := hE.rng
    refine T.block ?_
    refine T.seq ?_
    refine T.cutC (fun K' D' M' => ∃ (i : Nat), (i0 ≤ i ∧ PtI cf zs ia ib i j0 ∧ (i ≤ j0 → ¬ cf (gd zs i) (gd zs ia) < 0)) ∧ K' = [(12, .int .i64 (i : Int))] ∧ D' = [] ∧ M' = [own 32 28 (some ⟨pb, po, none⟩) len cap ((zs).map iC)]) (M0 := [own 32 28 (some ⟨pb, po, none⟩) len cap ((zs).map iC)]) (.cons (t := 0) rfl <| .cons (t := 1) rfl <| .cons (t := 4) rfl <| .cons (t := 13) rfl <| SubK.nil _) qS ?_ ?_
    · skip
      refine T.block ?_
      refine T.loop (fun K' D' M' μ => ∃ (i : Nat), (i0 ≤ i ∧ PtI cf zs ia ib i j0) ∧ K' = [(12, .int .i64 (i : Int))] ∧ D' = [] ∧ M' = [own 32 28 (some ⟨pb, po, none⟩) len cap ((zs).map iC)] ∧ μ = j0 + 1 - i) (.cons (t := 0) rfl <| .cons (t := 1) rfl <| .cons (t := 4) rfl <| .cons (t := 13) rfl <| SubK.nil _) (⟨i0, ⟨Nat.le_refl _, hE⟩, rfl, rfl, rfl, rfl⟩) (.cons (t := 12) rfl <| SubK.nil _) qD qS ?_
      rintro K1 D1 M1 m1 ⟨i, ⟨hi0, hE⟩, rfl, rfl, rfl, rfl⟩
      refine T.norm3 qA qA qA ?_
      have hr := hE.rng
      refine T.seq ?_
      refine T.seq ?_
      rcases Nat.lt_or_ge j0 i with hji | hji
      · skip
        refine T.regionQ (by kernel_rfl) (by kernel_rfl) ?_
        refine L.move rfl rfl ?_
        refine L.move rfl rfl ?_
        refine L.leI rfl rfl rfl ?_
        refine L.move rfl rfl ?_
        refine L.known (t := 108) rfl (show _ = Value.bool false from congrArg Value.bool (decide_eq_false (by omega))) ?_
        refine L.guardF (dj := 108) (c := false) rfl rfl rfl rfl rfl (by decide) ?_
        refine L.guardF (dj := 108) (c := false) rfl rfl rfl rfl rfl (by decide) ?_
        refine L.guardF (dj := 108) (c := false) rfl rfl rfl rfl rfl (by decide) ?_
        refine L.guardF (dj := 108) (c := false) rfl rfl rfl rfl rfl (by decide) ?_
        refine L.guardF (dj := 108) (c := false) rfl rfl rfl rfl rfl (by decide) ?_
        refine L.guardF (dj := 108) (c := false) rfl rfl rfl rfl rfl (by decide) ?_
        refine L.guardF (dj := 108) (c := false) rfl rfl rfl rfl rfl (by decide) ?_
        refine L.guardF (dj := 108) (c := false) rfl rfl rfl rfl rfl (by decide) ?_
        refine L.guardF (dj := 108) (c := false) rfl rfl rfl rfl rfl (by decide) ?_
        refine L.guardF (dj := 108) (c := false) rfl rfl rfl rfl rfl (by decide) ?_
        refine L.guardF (dj := 108) (c := false) rfl rfl rfl rfl rfl (by decide) ?_
        refine L.pickF rfl rfl rfl ?_
        refine L.nilQ ?_
        refine T.thenN ?_
        refine T.condF rfl rfl ?_
        refine T.exit ?_
        refine T.thenX ?_
        refine T.thenX ?_
        refine T.blkX ?_
        refine T.thenN ?_
        exact T.toJoin ⟨i, ⟨hi0, hE, fun e => absurd e (by omega)⟩, rfl, rfl, rfl⟩ (.cons (t := 12) rfl <| SubK.nil _) (.cons (t := 0) rfl <| .cons (t := 1) rfl <| .cons (t := 4) rfl <| .cons (t := 13) rfl <| SubK.nil _) qD qD qF
      · skip
        have hg0 : zs[i]? = some (gd zs (i)) := gd_get (by omega)
        have hw0 := iC_len (gd zs (i))
        have hg1 : zs[ia]? = some (gd zs (ia)) := gd_get (by omega)
        have hw1 := iC_len (gd zs (ia))
        refine T.regionQ (by kernel_rfl) (by kernel_rfl) ?_
        refine L.move rfl rfl ?_
        refine L.move rfl rfl ?_
        refine L.leI rfl rfl rfl ?_
        refine L.move rfl rfl ?_
        refine L.known (t := 108) rfl (show _ = Value.bool true from congrArg Value.bool (decide_eq_true (by omega))) ?_
        refine L.guardT (dj := 108) rfl rfl rfl ?_
        refine L.move rfl rfl ?_
        refine L.guardT (dj := 108) rfl rfl rfl ?_
        refine L.move rfl rfl ?_
        refine L.guardT (dj := 108) rfl rfl rfl ?_
        refine L.move rfl rfl ?_
        refine L.guardT (dj := 108) rfl rfl rfl ?_
        refine L.idxG (i := i) rfl Try.underlying34 sz28 rfl rfl (by first | rfl | omega | (simp; done)) qI ?_
        refine L.guardT (dj := 108) rfl rfl rfl ?_
        refine L.loadA rfl ag28 rfl (CellsN.ofOwn qM (map_get hg0) hw0) ?_
        refine L.guardT (dj := 108) rfl rfl rfl ?_
        refine L.move rfl rfl ?_
        refine L.guardT (dj := 108) rfl rfl rfl ?_
        refine L.move rfl rfl ?_
        refine L.guardT (dj := 108) rfl rfl rfl ?_
        refine L.idxG (i := ia) rfl Try.underlying34 sz28 rfl rfl (by first | rfl | omega | (simp; done)) qI ?_
        refine L.guardT (dj := 108) rfl rfl rfl ?_
        refine L.loadA rfl ag28 rfl (CellsN.ofOwn qM (map_get hg1) hw1) ?_
        refine L.guardT (dj := 108) rfl rfl rfl ?_
        refine L.callVF rfl rfl (evs.cons rfl <| evs.cons rfl <| evs.nil) qD qS (hc (gd zs i) (gd zs ia)) (by rintro u D1 M1 ⟨rfl, rfl, rfl⟩; exact ⟨rfl, _, qA, qF⟩) ?_
        refine L.guardT (dj := 108) rfl rfl rfl ?_
        refine L.ltI rfl rfl rfl ?_
        refine L.pickT rfl rfl rfl ?_
        refine L.nilQ ?_
        refine T.thenN ?_
        refine T.cond rfl (fun h120 => ?_) (fun h120 => ?_)
        · try simp only [decide_eq_true_eq, decide_eq_false_iff_not, Bool.not_eq_true', Bool.not_eq_false', Bool.and_eq_true, Bool.or_eq_true] at h120
          refine T.skip ?_
          refine T.thenN ?_
          refine T.block ?_
          refine T.region ?_
          refine L.move rfl rfl ?_
          refine L.addN rfl rfl rfl (by omega) ?_
          refine L.assign rfl rfl ?_
          refine L.nil ?_
          refine T.blkN ?_
          refine T.thenN ?_
          exact T.back ⟨i + 1, ⟨by omega, hE.up (by omega) h120⟩, rfl, rfl, rfl, rfl⟩ qI (.cons (t := 12) rfl <| SubK.nil _) (.cons (t := 0) rfl <| .cons (t := 1) rfl <| .cons (t := 4) rfl <| .cons (t := 13) rfl <| SubK.nil _) qD qD qF
        · try simp only [decide_eq_true_eq, decide_eq_false_iff_not, Bool.not_eq_true', Bool.not_eq_false', Bool.and_eq_true, Bool.or_eq_true] at h120
          refine T.exit ?_
          refine T.thenX ?_
          refine T.thenX ?_
          refine T.blkX ?_
          refine T.thenN ?_
          exact T.toJoin ⟨i, ⟨hi0, hE, fun _ => h120⟩, rfl, rfl, rfl⟩ (.cons (t := 12) rfl <| SubK.nil _) (.cons (t := 0) rfl <| .cons (t := 1) rfl <| .cons (t := 4) rfl <| .cons (t := 13) rfl <| SubK.nil _) qD qD qF
    rintro _ _ _ ⟨i, ⟨hi0, hE, hx⟩, rfl, rfl, rfl⟩
    refine T.norm3 qA qA qA ?_
    have hr := hE.rng
    refine T.thenN ?_
    refine T.seq ?_
    refine T.cutC (fun K' D' M' => ∃ (j : Nat), (j ≤ j0 ∧ PtI cf zs ia ib i j ∧ (i ≤ j → ¬ cf (gd zs i) (gd zs ia) < 0) ∧ (i ≤ j → cf (gd zs j) (gd zs ia) < 0)) ∧ K' = [(13, .int .i64 (j : Int))] ∧ D' = [] ∧ M' = [own 32 28 (some ⟨pb, po, none⟩) len cap ((zs).map iC)]) (M0 := [own 32 28 (some ⟨pb, po, none⟩) len cap ((zs).map iC)]) (.cons (t := 0) rfl <| .cons (t := 1) rfl <| .cons (t := 4) rfl <| .cons (t := 12) rfl <| SubK.nil _) qS ?_ ?_
    · skip
      refine T.block ?_
      refine T.loop (fun K' D' M' μ => ∃ (j : Nat), (j ≤ j0 ∧ PtI cf zs ia ib i j ∧ (i ≤ j → ¬ cf (gd zs i) (gd zs ia) < 0)) ∧ K' = [(13, .int .i64 (j : Int))] ∧ D' = [] ∧ M' = [own 32 28 (some ⟨pb, po, none⟩) len cap ((zs).map iC)] ∧ μ = j + 1 - i) (.cons (t := 0) rfl <| .cons (t := 1) rfl <| .cons (t := 4) rfl <| .cons (t := 12) rfl <| SubK.nil _) (⟨j0, ⟨Nat.le_refl _, hE, hx⟩, rfl, rfl, rfl, rfl⟩) (.cons (t := 13) rfl <| SubK.nil _) qD qS ?_
      rintro K1 D1 M1 m1 ⟨j, ⟨hj0, hE, hx⟩, rfl, rfl, rfl, rfl⟩
      refine T.norm3 qA qA qA ?_
      have hr := hE.rng
      refine T.seq ?_
      refine T.seq ?_
      rcases Nat.lt_or_ge j i with hji | hji
      · skip
        refine T.regionQ (by kernel_rfl) (by kernel_rfl) ?_
        refine L.move rfl rfl ?_
        refine L.move rfl rfl ?_
        refine L.leI rfl rfl rfl ?_
        refine L.move rfl rfl ?_
        refine L.known (t := 126) rfl (show _ = Value.bool false from congrArg Value.bool (decide_eq_false (by omega))) ?_
        refine L.guardF (dj := 126) (c := false) rfl rfl rfl rfl rfl (by decide) ?_
        refine L.guardF (dj := 126) (c := false) rfl rfl rfl rfl rfl (by decide) ?_
        refine L.guardF (dj := 126) (c := false) rfl rfl rfl rfl rfl (by decide) ?_
        refine L.guardF (dj := 126) (c := false) rfl rfl rfl rfl rfl (by decide) ?_
        refine L.guardF (dj := 126) (c := false) rfl rfl rfl rfl rfl (by decide) ?_
        refine L.guardF (dj := 126) (c := false) rfl rfl rfl rfl rfl (by decide) ?_
        refine L.guardF (dj := 126) (c := false) rfl rfl rfl rfl rfl (by decide) ?_
        refine L.guardF (dj := 126) (c := false) rfl rfl rfl rfl rfl (by decide) ?_
        refine L.guardF (dj := 126) (c := false) rfl rfl rfl rfl rfl (by decide) ?_
        refine L.guardF (dj := 126) (c := false) rfl rfl rfl rfl rfl (by decide) ?_
        refine L.guardF (dj := 126) (c := false) rfl rfl rfl rfl rfl (by decide) ?_
        refine L.guardF (dj := 126) (c := false) rfl rfl rfl rfl rfl (by decide) ?_
        refine L.pickF rfl rfl rfl ?_
        refine L.nilQ ?_
        refine T.thenN ?_
        refine T.condF rfl rfl ?_
        refine T.exit ?_
        refine T.thenX ?_
        refine T.thenX ?_
        refine T.blkX ?_
        refine T.thenN ?_
        exact T.toJoin ⟨j, ⟨hj0, hE, hx, fun e => absurd e (by omega)⟩, rfl, rfl, rfl⟩ (.cons (t := 13) rfl <| SubK.nil _) (.cons (t := 0) rfl <| .cons (t := 1) rfl <| .cons (t := 4) rfl <| .cons (t := 12) rfl <| SubK.nil _) qD qD qF
      · skip
        have hg0 : zs[j]? = some (gd zs (j)) := gd_get (by omega)
        have hw0 := iC_len (gd zs (j))
        have hg1 : zs[ia]? = some (gd zs (ia)) := gd_get (by omega)
        have hw1 := iC_len (gd zs (ia))
        refine T.regionQ (by kernel_rfl) (by kernel_rfl) ?_
        refine L.move rfl rfl ?_
        refine L.move rfl rfl ?_
        refine L.leI rfl rfl rfl ?_
        refine L.move rfl rfl ?_
        refine L.known (t := 126) rfl (show _ = Value.bool true from congrArg Value.bool (decide_eq_true (by omega))) ?_
        refine L.guardT (dj := 126) rfl rfl rfl ?_
        refine L.move rfl rfl ?_
        refine L.guardT (dj := 126) rfl rfl rfl ?_
        refine L.move rfl rfl ?_
        refine L.guardT (dj := 126) rfl rfl rfl ?_
        refine L.move rfl rfl ?_
        refine L.guardT (dj := 126) rfl rfl rfl ?_
        refine L.idxG (i := j) rfl Try.underlying34 sz28 rfl rfl (by first | rfl | omega | (simp; done)) qI ?_
        refine L.guardT (dj := 126) rfl rfl rfl ?_
        refine L.loadA rfl ag28 rfl (CellsN.ofOwn qM (map_get hg0) hw0) ?_
        refine L.guardT (dj := 126) rfl rfl rfl ?_
        refine L.move rfl rfl ?_
        refine L.guardT (dj := 126) rfl rfl rfl ?_
        refine L.move rfl rfl ?_
        refine L.guardT (dj := 126) rfl rfl rfl ?_
        refine L.idxG (i := ia) rfl Try.underlying34 sz28 rfl rfl (by first | rfl | omega | (simp; done)) qI ?_
        refine L.guardT (dj := 126) rfl rfl rfl ?_
        refine L.loadA rfl ag28 rfl (CellsN.ofOwn qM (map_get hg1) hw1) ?_
        refine L.guardT (dj := 126) rfl rfl rfl ?_
        refine L.callVF rfl rfl (evs.cons rfl <| evs.cons rfl <| evs.nil) qD qS (hc (gd zs j) (gd zs ia)) (by rintro u D1 M1 ⟨rfl, rfl, rfl⟩; exact ⟨rfl, _, qA, qF⟩) ?_
        refine L.guardT (dj := 126) rfl rfl rfl ?_
        refine L.ltI rfl rfl rfl ?_
        refine L.guardT (dj := 126) rfl rfl rfl ?_
        refine L.notB rfl rfl ?_
        refine L.pickT rfl rfl rfl ?_
        refine L.nilQ ?_
        refine T.thenN ?_
        refine T.cond rfl (fun h139 => ?_) (fun h139 => ?_)
        · try simp only [decide_eq_true_eq, decide_eq_false_iff_not, Bool.not_eq_true', Bool.not_eq_false', Bool.and_eq_true, Bool.or_eq_true] at h139
          refine T.skip ?_
          refine T.thenN ?_
          refine T.block ?_
          refine T.region ?_
          refine L.move rfl rfl ?_
          refine L.subN rfl rfl rfl (by omega) ?_
          refine L.known (t := 141) (u := .int .i64 ((j - 1 : Nat) : Int)) rfl (congrArg (Value.int .i64) (by omega)) ?_
          refine L.assign rfl rfl ?_
          refine L.nil ?_
          refine T.blkN ?_
          refine T.thenN ?_
          exact T.back ⟨j - 1, ⟨by omega, hE.down (by omega) h139, fun _ => hx (by omega)⟩, rfl, rfl, rfl, rfl⟩ qI (.cons (t := 13) rfl <| SubK.nil _) (.cons (t := 0) rfl <| .cons (t := 1) rfl <| .cons (t := 4) rfl <| .cons (t := 12) rfl <| SubK.nil _) qD qD qF
        · try simp only [decide_eq_true_eq, decide_eq_false_iff_not, Bool.not_eq_true', Bool.not_eq_false', Bool.and_eq_true, Bool.or_eq_true] at h139
          refine T.exit ?_
          refine T.thenX ?_
          refine T.thenX ?_
          refine T.blkX ?_
          refine T.thenN ?_
          exact T.toJoin ⟨j, ⟨hj0, hE, hx, fun _ => h139⟩, rfl, rfl, rfl⟩ (.cons (t := 13) rfl <| SubK.nil _) (.cons (t := 0) rfl <| .cons (t := 1) rfl <| .cons (t := 4) rfl <| .cons (t := 12) rfl <| SubK.nil _) qD qD qF
    rintro _ _ _ ⟨j, ⟨hj0, hE, hx, hy⟩, rfl, rfl, rfl⟩
    refine T.norm3 qA qA qA ?_
    have hr := hE.rng
    refine T.thenN ?_
    refine T.seq ?_
    refine T.seq ?_
    refine T.region ?_
    refine L.move rfl rfl ?_
    refine L.move rfl rfl ?_
    refine L.gtI rfl rfl rfl ?_
    refine L.nil ?_
    refine T.thenN ?_
    refine T.cond rfl (fun h144 => ?_) (fun h144 => ?_)
    · try simp only [decide_eq_true_eq, decide_eq_false_iff_not, Bool.not_eq_true', Bool.not_eq_false', Bool.and_eq_true, Bool.or_eq_true] at h144
      refine T.exit ?_
      refine T.thenX ?_
      refine T.blkY rfl ?_
      refine T.thenX ?_
      refine T.blkX ?_
      refine T.thenN ?_
      refine T.seq ?_
      have hg0 : zs[j]? = some (gd zs (j)) := gd_get (by omega)
      have hw0 := iC_len (gd zs (j))
      have hg1 : zs[ia]? = some (gd zs (ia)) := gd_get (by omega)
      have hw1 := iC_len (gd zs (ia))
      refine T.regionA (clsL [1, 1, 1, 1, 1, 1, 1, 0, 1, 1, 1, 0, 1, 2, 1, 2]) (by kernel_rfl) ?_
      refine A.takeP (i := 0) rfl rfl rfl rfl (by kernel_rfl) (by kernel_rfl) (by kernel_rfl) rfl qD ?_
      refine L.move rfl rfl ?_
      refine A.took ?_
      refine A.takeP (i := 1) rfl rfl rfl rfl (by kernel_rfl) (by kernel_rfl) (by kernel_rfl) rfl qD ?_
      refine L.move rfl rfl ?_
      refine A.took ?_
      refine A.takeP (i := 2) rfl rfl rfl rfl (by kernel_rfl) (by kernel_rfl) (by kernel_rfl) rfl qD ?_
      refine L.move rfl rfl ?_
      refine A.took ?_
      refine A.takeP (i := 3) rfl rfl rfl rfl (by kernel_rfl) (by kernel_rfl) (by kernel_rfl) rfl qD ?_
      refine L.move rfl rfl ?_
      refine A.took ?_
      refine A.takeP (i := 4) rfl rfl rfl rfl (by kernel_rfl) (by kernel_rfl) (by kernel_rfl) rfl qD ?_
      refine L.move rfl rfl ?_
      refine A.took ?_
      refine A.takeP (i := 5) rfl rfl rfl rfl (by kernel_rfl) (by kernel_rfl) (by kernel_rfl) rfl qD ?_
      refine L.move rfl rfl ?_
      refine A.took ?_
      refine A.takeP (i := 6) rfl rfl rfl rfl (by kernel_rfl) (by kernel_rfl) (by kernel_rfl) rfl qD ?_
      refine L.idxG (i := ia) rfl Try.underlying34 sz28 rfl rfl (by first | rfl | omega | (simp; done)) qI ?_
      refine A.took ?_
      refine A.takeP (i := 8) rfl rfl rfl rfl (by kernel_rfl) (by kernel_rfl) (by kernel_rfl) rfl qD ?_
      refine L.move rfl rfl ?_
      refine A.took ?_
      refine A.takeP (i := 9) rfl rfl rfl rfl (by kernel_rfl) (by kernel_rfl) (by kernel_rfl) rfl qD ?_
      refine L.move rfl rfl ?_
      refine A.took ?_
      refine A.takeP (i := 10) rfl rfl rfl rfl (by kernel_rfl) (by kernel_rfl) (by kernel_rfl) rfl qD ?_
      refine L.idxG (i := j) rfl Try.underlying34 sz28 rfl rfl (by first | rfl | omega | (simp; done)) qI ?_
      refine A.took ?_
      refine A.take (i := 7) rfl rfl rfl rfl (by kernel_rfl) (by kernel_rfl) (by kernel_rfl) (by kernel_rfl) rfl qD qF ?_
      refine L.loadA rfl ag28 rfl (CellsN.ofOwn qM (map_get hg1) hw1) ?_
      refine A.took ?_
      refine A.take (i := 11) rfl rfl rfl rfl (by kernel_rfl) (by kernel_rfl) (by kernel_rfl) (by kernel_rfl) rfl qD qF ?_
      refine L.loadA rfl ag28 rfl (CellsN.ofOwn qM (map_get hg0) hw0) ?_
      refine A.took ?_
      refine A.takeP (i := 12) rfl rfl rfl rfl (by kernel_rfl) (by kernel_rfl) (by kernel_rfl) rfl qD ?_
      refine L.idxG (i := j) rfl Try.underlying34 sz28 rfl rfl (by first | rfl | omega | (simp; done)) qI ?_
      refine A.took ?_
      refine A.branch (is := [13]) (by kernel_rfl) (by decide) (Each.cons rfl ?_ <| Each.nil) 
      refine L.storeOA (j) ag28 rfl (by first | rfl | omega | (simp; done)) rfl qL qO qP qI ?_
      refine A.backT rfl qD ?_
      refine A.takeP (i := 14) rfl rfl rfl rfl (by kernel_rfl) (by kernel_rfl) (by kernel_rfl) rfl qD ?_
      refine L.idxG (i := ia) rfl Try.underlying34 sz28 rfl rfl (by first | rfl | omega | (simp; done)) qI ?_
      refine A.took ?_
      refine A.branch (is := [15]) (by kernel_rfl) (by decide) (Each.cons rfl ?_ <| Each.nil) 
      refine L.storeOA (ia) ag28 rfl (by first | rfl | omega | (simp; done)) rfl qL qO qP qI ?_
      refine A.backT rfl qD ?_
      refine A.done (by kernel_rfl) ?_
      refine T.ownEq _ ((sw zs (j) (ia)).map iC) qP (by rw [sw, List.map_set, List.map_set]) ?_
      obtain ⟨hp1, hp2, hp3⟩ := hE.end' hO (by omega) (by omega)
      refine T.thenN ?_
      refine T.seq ?_
      refine T.region ?_
      refine L.move rfl rfl ?_
      refine L.assign rfl rfl ?_
      refine L.assign rfl rfl ?_
      refine L.nil ?_
      refine T.thenN ?_
      refine T.ret ?_
      exact T.ret2 rfl rfl rfl ⟨sw zs j ia, j, _, rfl, hP.trans (.sw (by omega) (by omega) (by omega) (by omega) (by omega)), ⟨hp2, hp3⟩, hp1, rfl, rfl⟩ qD qF
    · try simp only [decide_eq_true_eq, decide_eq_false_iff_not, Bool.not_eq_true', Bool.not_eq_false', Bool.and_eq_true, Bool.or_eq_true] at h144
      refine T.skip ?_
      refine T.thenN ?_
      refine T.seq ?_
      have hg0 : zs[i]? = some (gd zs (i)) := gd_get (by omega)
      have hw0 := iC_len (gd zs (i))
      have hg1 : zs[j]? = some (gd zs (j)) := gd_get (by omega)
      have hw1 := iC_len (gd zs (j))
      refine T.regionA (clsL [1, 1, 1, 1, 1, 1, 1, 0, 1, 1, 1, 0, 1, 2, 1, 2]) (by kernel_rfl) ?_
      refine A.takeP (i := 0) rfl rfl rfl rfl (by kernel_rfl) (by kernel_rfl) (by kernel_rfl) rfl qD ?_
      refine L.move rfl rfl ?_
      refine A.took ?_
      refine A.takeP (i := 1) rfl rfl rfl rfl (by kernel_rfl) (by kernel_rfl) (by kernel_rfl) rfl qD ?_
      refine L.move rfl rfl ?_
      refine A.took ?_
      refine A.takeP (i := 2) rfl rfl rfl rfl (by kernel_rfl) (by kernel_rfl) (by kernel_rfl) rfl qD ?_
      refine L.move rfl rfl ?_
      refine A.took ?_
      refine A.takeP (i := 3) rfl rfl rfl rfl (by kernel_rfl) (by kernel_rfl) (by kernel_rfl) rfl qD ?_
      refine L.move rfl rfl ?_
      refine A.took ?_
      refine A.takeP (i := 4) rfl rfl rfl rfl (by kernel_rfl) (by kernel_rfl) (by kernel_rfl) rfl qD ?_
      refine L.move rfl rfl ?_
      refine A.took ?_
      refine A.takeP (i := 5) rfl rfl rfl rfl (by kernel_rfl) (by kernel_rfl) (by kernel_rfl) rfl qD ?_
      refine L.move rfl rfl ?_
      refine A.took ?_
      refine A.takeP (i := 6) rfl rfl rfl rfl (by kernel_rfl) (by kernel_rfl) (by kernel_rfl) rfl qD ?_
      refine L.idxG (i := j) rfl Try.underlying34 sz28 rfl rfl (by first | rfl | omega | (simp; done)) qI ?_
      refine A.took ?_
      refine A.takeP (i := 8) rfl rfl rfl rfl (by kernel_rfl) (by kernel_rfl) (by kernel_rfl) rfl qD ?_
      refine L.move rfl rfl ?_
      refine A.took ?_
      refine A.takeP (i := 9) rfl rfl rfl rfl (by kernel_rfl) (by kernel_rfl) (by kernel_rfl) rfl qD ?_
      refine L.move rfl rfl ?_
      refine A.took ?_
      refine A.takeP (i := 10) rfl rfl rfl rfl (by kernel_rfl) (by kernel_rfl) (by kernel_rfl) rfl qD ?_
      refine L.idxG (i := i) rfl Try.underlying34 sz28 rfl rfl (by first | rfl | omega | (simp; done)) qI ?_
      refine A.took ?_
      refine A.take (i := 7) rfl rfl rfl rfl (by kernel_rfl) (by kernel_rfl) (by kernel_rfl) (by kernel_rfl) rfl qD qF ?_
      refine L.loadA rfl ag28 rfl (CellsN.ofOwn qM (map_get hg1) hw1) ?_
      refine A.took ?_
      refine A.take (i := 11) rfl rfl rfl rfl (by kernel_rfl) (by kernel_rfl) (by kernel_rfl) (by kernel_rfl) rfl qD qF ?_
      refine L.loadA rfl ag28 rfl (CellsN.ofOwn qM (map_get hg0) hw0) ?_
      refine A.took ?_
      refine A.takeP (i := 12) rfl rfl rfl rfl (by kernel_rfl) (by kernel_rfl) (by kernel_rfl) rfl qD ?_
      refine L.idxG (i := i) rfl Try.underlying34 sz28 rfl rfl (by first | rfl | omega | (simp; done)) qI ?_
      refine A.took ?_
      refine A.branch (is := [13]) (by kernel_rfl) (by decide) (Each.cons rfl ?_ <| Each.nil) 
      refine L.storeOA (i) ag28 rfl (by first | rfl | omega | (simp; done)) rfl qL qO qP qI ?_
      refine A.backT rfl qD ?_
      refine A.takeP (i := 14) rfl rfl rfl rfl (by kernel_rfl) (by kernel_rfl) (by kernel_rfl) rfl qD ?_
      refine L.idxG (i := j) rfl Try.underlying34 sz28 rfl rfl (by first | rfl | omega | (simp; done)) qI ?_
      refine A.took ?_
      refine A.branch (is := [15]) (by kernel_rfl) (by decide) (Each.cons rfl ?_ <| Each.nil) 
      refine L.storeOA (j) ag28 rfl (by first | rfl | omega | (simp; done)) rfl qL qO qP qI ?_
      refine A.backT rfl qD ?_
      refine A.done (by kernel_rfl) ?_
      refine T.ownEq _ ((sw zs (i) (j)).map iC) qP (by rw [sw, List.map_set, List.map_set]) ?_
      refine T.thenN ?_
      refine T.seq ?_
      refine T.region ?_
      refine L.move rfl rfl ?_
      refine L.addN rfl rfl rfl (by omega) ?_
      refine L.assign rfl rfl ?_
      refine L.nil ?_
      refine T.thenN ?_
      refine T.region ?_
      refine L.move rfl rfl ?_
      refine L.subN rfl rfl rfl (by omega) ?_
      refine L.known (t := 162) (u := .int .i64 ((j - 1 : Nat) : Int)) rfl (congrArg (Value.int .i64) (by omega)) ?_
      refine L.assign rfl rfl ?_
      refine L.nil ?_
      refine T.blkN ?_
      refine T.thenN ?_
      exact T.back ⟨i + 1, j - 1, sw zs i j, ⟨hP.trans (.sw (by omega) (by omega) (by omega) (by omega) (by omega)), hE.swap (by omega) (by omega) (hx (by omega)) (hy (by omega))⟩, rfl, rfl, rfl, rfl⟩ qI (.cons (t := 12) rfl <| .cons (t := 13) rfl <| SubK.nil _) (.cons (t := 0) rfl <| .cons (t := 1) rfl <| .cons (t := 4) rfl <| SubK.nil _) qD qD qF
end Cv
