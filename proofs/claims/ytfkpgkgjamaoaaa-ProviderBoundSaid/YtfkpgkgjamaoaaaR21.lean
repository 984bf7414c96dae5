/-
  The walks: the law of how many there may be.
-/
import Derived.Test.YtfkpgkgjamaoaaaQ21x
import Derived.Test.YtfkpgkgjamaoaaaProg
import Derived.KernelRfl
set_option linter.unusedVariables false
set_option linter.unusedSimpArgs false
set_option linter.unusedSectionVars false
set_option maxRecDepth 10000
namespace Cv
open Go Go.Proofs

set_option maxHeartbeats 1000000 in
theorem bound_law (a0 a1 : Int)  : Spec Try.prog 5 [.int .i64 a0, .int .i64 a1] [] [] (fun v D' M' => v = .bool true ∧ D' = [] ∧ M' = []) := by
  refine Spec.intro (n := 74) Try.func5 rfl rfl (by decide) (Nat.le_of_ble_eq_true rfl) rfl (fun _ => qA) (fun _ => qA) ?_
  intro σ D M
  refine T.seq ?_
  refine T.region ?_
  refine L.assign rfl rfl ?_
  refine L.nil ?_
  refine T.thenN ?_
  refine T.seq ?_
  refine T.seq ?_
  refine T.region ?_
  refine L.call rfl (evs.nil) qD qS (awake_spec) ?_
  rintro _ _ _ ⟨rfl, rfl, rfl⟩
  refine L.norm qA qA ?_
  refine L.notB rfl rfl ?_
  refine L.nil ?_
  refine T.thenN ?_
  refine T.condF rfl rfl ?_
  refine T.skip ?_
  refine T.thenN ?_
  refine T.seq ?_
  refine T.region ?_
  refine L.move rfl rfl ?_
  refine L.maxI rfl rfl rfl ?_
  refine L.minI rfl rfl rfl ?_
  refine L.move rfl rfl ?_
  refine L.maxI rfl rfl rfl ?_
  refine L.minI rfl rfl rfl ?_
  refine L.assign rfl rfl ?_
  refine L.assign rfl rfl ?_
  refine L.nil ?_
  obtain ⟨n, hn, hn100⟩ : ∃ n : Nat, min (max a0 0) 100 = (n : Int) ∧ n ≤ 100 := ⟨(min (max a0 0) 100).toNat, by omega, by omega⟩
  obtain ⟨k, hk, hk63⟩ : ∃ k : Nat, min (max a1 0) 63 = (k : Int) ∧ k ≤ 63 := ⟨(min (max a1 0) 63).toNat, by omega, by omega⟩
  rw [hn, hk]
  refine T.thenN ?_
  refine T.seq ?_
  refine T.region ?_
  refine L.call rfl (evs.nil) qD qS (pnew_spec) ?_
  rintro _ _ _ ⟨sb, sm, rfl, rfl, rfl⟩
  refine L.norm qA qA ?_
  refine L.eqv qP (show tbA sm [] = tbA sm (stB k 0 0) from by rw [stB_0]) ?_
  refine L.assign rfl rfl ?_
  refine L.nil ?_
  refine T.thenN ?_
  refine T.seq ?_
  refine T.seq ?_
  refine T.region ?_
  refine L.move rfl rfl ?_
  refine L.move rfl rfl ?_
  refine L.nil ?_
  refine T.thenN ?_
  refine T.block ?_
  refine T.loop (fun K' D' M' μ => ∃ (i : Nat), (i ≤ n) ∧ K' = [(20, .int .i64 i)] ∧ D' = [] ∧ M' = [tbA sm (stB k i 0)] ∧ μ = n - i) (.cons (t := 0) rfl <| .cons (t := 1) rfl <| .cons (t := 5) rfl <| .cons (t := 19) rfl <| SubK.nil _) (⟨0, Nat.zero_le _, rfl, rfl, rfl, rfl⟩) (.cons (t := 20) rfl <| SubK.nil _) qD qS ?_
  rintro K1 D1 M1 m1 ⟨i, hi, rfl, rfl, rfl, rfl⟩
  refine T.norm3 qA qA qA ?_
  refine T.seq ?_
  refine T.region ?_
  refine L.ltI rfl rfl rfl ?_
  refine L.nil ?_
  refine T.thenN ?_
  refine T.seq ?_
  refine T.cond rfl (fun h21 => ?_) (fun h21 => ?_)
  · try simp only [decide_eq_true_eq, decide_eq_false_iff_not, Bool.not_eq_true', Bool.not_eq_false', Bool.and_eq_true, Bool.or_eq_true] at h21
    refine T.skip ?_
    refine T.thenN ?_
    refine T.seq ?_
    refine T.block ?_
    refine T.seq ?_
    refine T.region ?_
    refine L.move rfl rfl ?_
    refine L.assign rfl rfl ?_
    refine L.nil ?_
    refine T.thenN ?_
    refine T.seq ?_
    refine T.region ?_
    refine L.move rfl rfl ?_
    refine L.move rfl rfl ?_
    refine L.nil ?_
    refine T.thenN ?_
    refine T.block ?_
    refine T.loop (fun K' D' M' μ => ∃ (j : Nat), (j ≤ k) ∧ K' = [(24, .int .i64 j)] ∧ D' = [] ∧ M' = [tbA sm (stB k i j)] ∧ μ = k - j) (.cons (t := 0) rfl <| .cons (t := 1) rfl <| .cons (t := 5) rfl <| .cons (t := 6) rfl <| .cons (t := 19) rfl <| .cons (t := 20) rfl <| .cons (t := 23) rfl <| SubK.nil _) (⟨0, Nat.zero_le _, rfl, rfl, rfl, rfl⟩) (.cons (t := 24) rfl <| SubK.nil _) qD qS ?_
    rintro K1 D1 M1 m1 ⟨j, hj, rfl, rfl, rfl, rfl⟩
    refine T.norm3 qA qA qA ?_
    refine T.seq ?_
    refine T.region ?_
    refine L.ltI rfl rfl rfl ?_
    refine L.nil ?_
    refine T.thenN ?_
    refine T.seq ?_
    refine T.cond rfl (fun h25 => ?_) (fun h25 => ?_)
    · try simp only [decide_eq_true_eq, decide_eq_false_iff_not, Bool.not_eq_true', Bool.not_eq_false', Bool.and_eq_true, Bool.or_eq_true] at h25
      refine T.skip ?_
      refine T.thenN ?_
      refine T.seq ?_
      refine T.block ?_
      refine T.seq ?_
      refine T.region ?_
      refine L.move rfl rfl ?_
      refine L.assign rfl rfl ?_
      refine L.nil ?_
      refine T.thenN ?_
      refine T.region ?_
      refine L.move rfl rfl ?_
      refine L.move rfl rfl ?_
      refine L.convIY rfl Try.underlying3 Try.underlying5 rfl ?_
      refine L.build rfl bua28 (BP.one rfl rfl rfl <| BP.doneE (out := (Value.int .u8 0 :: Value.int .u8 0 :: Value.int .u8 0 :: Value.int .u8 0 :: Value.int .u8 0 :: Value.int .u8 0 :: Value.int .u8 0 :: Value.int .u8 0 :: Value.int .u8 0 :: Value.int .u8 0 :: Value.int .u8 0 :: Value.int .u8 0 :: Value.int .u8 0 :: Value.int .u8 0 :: Value.int .u8 0 :: Value.int .u8 0 :: Value.int .u8 0 :: Value.int .u8 0 :: Value.int .u8 0 :: Value.int .u8 0 :: Value.int .u8 0 :: Value.int .u8 0 :: Value.int .u8 0 :: Value.int .u8 0 :: Value.int .u8 0 :: Value.int .u8 0 :: Value.int .u8 0 :: Value.int .u8 0 :: Value.int .u8 0 :: Value.int .u8 0 :: Value.int .u8 0 :: [])) rfl) ?_
      refine L.known (t := 30) (u := .agg ((idn i).1.map Y).toArray) rfl (by have e : ((i : Int) % 256).toNat = i := (by omega); simp [idn, e]; rfl) ?_
      refine L.move rfl rfl ?_
      refine L.call rfl (evs.cons rfl <| evs.cons rfl <| evs.cons rfl <| evs.cons rfl <| evs.nil) qD qS (put_spec (b := sb) (tm := sm) (t := stB k i j) (k := idn i) (a := (j : Int)) (u := 100) (by have := @stB_len k i j; omega) (fun r hr => by have := stB_row (by omega) hr; omega)) ?_
      rintro _ _ _ ⟨rfl, rfl, rfl⟩
      refine L.norm qA qA ?_
      rw [stB_step hk63 (by omega) (by omega)]
      refine L.nil ?_
      refine T.blkN ?_
      refine T.thenN ?_
      refine T.region ?_
      refine L.addN rfl rfl rfl (by omega) ?_
      refine L.move rfl rfl ?_
      refine L.nil ?_
      refine T.thenN ?_
      exact T.back ⟨j + 1, (by omega), rfl, rfl, rfl, rfl⟩ qI (.cons (t := 24) rfl <| SubK.nil _) (.cons (t := 0) rfl <| .cons (t := 1) rfl <| .cons (t := 5) rfl <| .cons (t := 6) rfl <| .cons (t := 19) rfl <| .cons (t := 20) rfl <| .cons (t := 23) rfl <| SubK.nil _) qD qD qF
    · try simp only [decide_eq_true_eq, decide_eq_false_iff_not, Bool.not_eq_true', Bool.not_eq_false', Bool.and_eq_true, Bool.or_eq_true] at h25
      obtain rfl : k = j := by omega
      refine T.eqv qP (show tbA sm (stB k i k) = tbA sm (stB k (i + 1) 0) from by rw [stB_next]) ?_
      refine T.exit ?_
      refine T.thenX ?_
      refine T.thenX ?_
      refine T.blkX ?_
      refine T.blkN ?_
      refine T.thenN ?_
      refine T.region ?_
      refine L.addN rfl rfl rfl (by omega) ?_
      refine L.move rfl rfl ?_
      refine L.nil ?_
      refine T.thenN ?_
      exact T.back ⟨i + 1, (by omega), rfl, rfl, rfl, rfl⟩ qI (.cons (t := 20) rfl <| SubK.nil _) (.cons (t := 0) rfl <| .cons (t := 1) rfl <| .cons (t := 5) rfl <| .cons (t := 19) rfl <| SubK.nil _) qD qD qF
  · try simp only [decide_eq_true_eq, decide_eq_false_iff_not, Bool.not_eq_true', Bool.not_eq_false', Bool.and_eq_true, Bool.or_eq_true] at h21
    obtain rfl : n = i := by omega
    refine T.exit ?_
    refine T.thenX ?_
    refine T.thenX ?_
    refine T.blkX ?_
    refine T.thenN ?_
    refine T.seq ?_
    refine T.seq ?_
    refine T.region ?_
    refine L.move rfl rfl ?_
    refine L.eqI rfl rfl rfl ?_
    refine L.nil ?_
    refine T.thenN ?_
    refine T.cond rfl (fun h36 => ?_) (fun h36 => ?_)
    · try simp only [decide_eq_true_eq, decide_eq_false_iff_not, Bool.not_eq_true', Bool.not_eq_false', Bool.and_eq_true, Bool.or_eq_true] at h36
      obtain rfl : k = 0 := by omega
      refine T.eqv qP (show tbA sm (stB 0 n 0) = tbA sm [] from by rw [stB_fin]; rfl) ?_
      refine T.seq ?_
      refine T.region ?_
      refine L.move rfl rfl ?_
      refine L.call rfl (evs.cons rfl <| evs.nil) qD qS (names_spec (b := sb) (tm := sm) (t := []) (by decide)) ?_
      rintro _ _ _ ⟨na, nn, nc, rfl, hnn, rfl, rfl⟩
      refine L.norm qA qA ?_
      refine L.lenSl rfl Try.underlying34 rfl ?_
      refine L.eqI rfl rfl rfl ?_
      refine L.assign rfl rfl ?_
      refine L.nil ?_
      refine T.thenN ?_
      refine T.ret ?_
      refine T.thenR ?_
      exact T.ret1 rfl rfl ⟨congrArg Value.bool (decide_eq_true (by simp at hnn; omega)), rfl, rfl⟩ qD qF
    · try simp only [decide_eq_true_eq, decide_eq_false_iff_not, Bool.not_eq_true', Bool.not_eq_false', Bool.and_eq_true, Bool.or_eq_true] at h36
      refine T.eqv qP (show tbA sm (stB k n 0) = tbA sm (bt (min n 64) (min k 8)) from by rw [stB_fin]) ?_
      refine T.skip ?_
      refine T.thenN ?_
      refine T.seq ?_
      refine T.seq ?_
      refine T.region ?_
      refine L.move rfl rfl ?_
      refine L.move rfl rfl ?_
      refine L.nil ?_
      refine T.thenN ?_
      refine T.block ?_
      refine T.loop (fun K' D' M' μ => ∃ (i : Nat), (i ≤ n) ∧ K' = [(42, .int .i64 i)] ∧ D' = [] ∧ M' = [] ∧ μ = n - i) (.cons (t := 1) rfl <| .cons (t := 5) rfl <| .cons (t := 41) rfl <| SubK.nil _) (⟨0, Nat.zero_le _, rfl, rfl, rfl, rfl⟩) (.cons (t := 42) rfl <| SubK.nil _) qD qS ?_
      rintro K1 D1 M1 m1 ⟨i, hi2, rfl, rfl, rfl, rfl⟩
      refine T.norm3 qA qA qA ?_
      refine T.seq ?_
      refine T.region ?_
      refine L.ltI rfl rfl rfl ?_
      refine L.nil ?_
      refine T.thenN ?_
      refine T.seq ?_
      refine T.cond rfl (fun h43 => ?_) (fun h43 => ?_)
      · try simp only [decide_eq_true_eq, decide_eq_false_iff_not, Bool.not_eq_true', Bool.not_eq_false', Bool.and_eq_true, Bool.or_eq_true] at h43
        refine T.skip ?_
        refine T.thenN ?_
        refine T.seq ?_
        refine T.block ?_
        refine T.seq ?_
        refine T.region ?_
        refine L.move rfl rfl ?_
        refine L.assign rfl rfl ?_
        refine L.nil ?_
        refine T.thenN ?_
        refine T.seq ?_
        refine T.region ?_
        refine L.move rfl rfl ?_
        refine L.move rfl rfl ?_
        refine L.convIY rfl Try.underlying3 Try.underlying5 rfl ?_
        refine L.build rfl bua28 (BP.one rfl rfl rfl <| BP.doneE (out := (Value.int .u8 0 :: Value.int .u8 0 :: Value.int .u8 0 :: Value.int .u8 0 :: Value.int .u8 0 :: Value.int .u8 0 :: Value.int .u8 0 :: Value.int .u8 0 :: Value.int .u8 0 :: Value.int .u8 0 :: Value.int .u8 0 :: Value.int .u8 0 :: Value.int .u8 0 :: Value.int .u8 0 :: Value.int .u8 0 :: Value.int .u8 0 :: Value.int .u8 0 :: Value.int .u8 0 :: Value.int .u8 0 :: Value.int .u8 0 :: Value.int .u8 0 :: Value.int .u8 0 :: Value.int .u8 0 :: Value.int .u8 0 :: Value.int .u8 0 :: Value.int .u8 0 :: Value.int .u8 0 :: Value.int .u8 0 :: Value.int .u8 0 :: Value.int .u8 0 :: Value.int .u8 0 :: [])) rfl) ?_
        refine L.known (t := 48) (u := .agg ((idn i).1.map Y).toArray) rfl (by have e : ((i : Int) % 256).toNat = i := (by omega); simp [idn, e]; rfl) ?_
        refine L.call rfl (evs.cons rfl <| evs.cons rfl <| evs.cons rfl <| evs.nil) qD qS (get_spec (b := sb) (tm := sm) (t := bt (min n 64) (min k 8)) (k := idn i) (now := 0) (by have := @bt_len (min n 64) (min k 8); omega) (fun r hr => by have := (bt_rows (mem_of_look hr)).2; simp at this; omega)) ?_
        rintro _ _ _ ⟨pa, pn, pc, xs, rfl, hpp, hpn, rfl, rfl⟩
        refine L.norm qA qA ?_
        have hgot := bt_got hn100 (by omega) (by omega) hpp hpn
        refine L.lenSl rfl Try.underlying29 rfl ?_
        refine L.assign rfl rfl ?_
        refine L.nil ?_
        refine T.thenN ?_
        refine T.seq ?_
        refine T.cutC (fun K' D' M' => ∃ (w : Bool), (w = false) ∧ K' = [(66, .bool w)] ∧ D' = [] ∧ M' = []) (M0 := []) (.cons (t := 1) rfl <| .cons (t := 5) rfl <| .cons (t := 41) rfl <| .cons (t := 42) rfl <| SubK.nil _) qS ?_ ?_
        · skip
          rcases Nat.lt_or_ge i 64 with hs | hs
          · skip
            refine T.region ?_
            refine L.move rfl rfl ?_
            refine L.ltI rfl rfl rfl ?_
            refine L.move rfl rfl ?_
            refine L.known (t := 53) rfl (show _ = Value.bool true from congrArg Value.bool (decide_eq_true (by omega))) ?_
            refine L.guardT (dj := 53) rfl rfl rfl ?_
            refine L.move rfl rfl ?_
            refine L.guardT (dj := 53) rfl rfl rfl ?_
            refine L.move rfl rfl ?_
            refine L.guardT (dj := 53) rfl rfl rfl ?_
            refine L.minI rfl rfl rfl ?_
            refine L.guardT (dj := 53) rfl rfl rfl ?_
            refine L.neI rfl rfl rfl ?_
            refine L.pickT rfl rfl rfl ?_
            refine L.move rfl rfl ?_
            refine L.known (t := 59) rfl (show _ = Value.bool false from congrArg Value.bool (decide_eq_false (by rw [if_pos hs] at hgot; omega))) ?_
            refine L.guardT (dj := 59) rfl rfl rfl ?_
            refine L.move rfl rfl ?_
            refine L.guardT (dj := 59) rfl rfl rfl ?_
            refine L.geI rfl rfl rfl ?_
            refine L.guardT (dj := 59) rfl rfl rfl ?_
            refine L.move rfl rfl ?_
            refine L.known (t := 62) rfl (show _ = Value.bool false from congrArg Value.bool (decide_eq_false (by omega))) ?_
            refine L.guardF (dj := 62) (c := false) rfl rfl rfl rfl rfl (by decide) ?_
            refine L.guardF (dj := 62) (c := false) rfl rfl rfl rfl rfl (by decide) ?_
            refine L.guardT (dj := 59) rfl rfl rfl ?_
            refine L.pickF rfl rfl rfl ?_
            refine L.pickF rfl rfl rfl ?_
            refine L.nil ?_
            refine T.thenN ?_
            exact T.toJoin ⟨_, rfl, rfl, rfl, rfl⟩ (.cons (t := 66) rfl <| SubK.nil _) (.cons (t := 1) rfl <| .cons (t := 5) rfl <| .cons (t := 41) rfl <| .cons (t := 42) rfl <| SubK.nil _) qD qD qF
          · skip
            refine T.region ?_
            refine L.move rfl rfl ?_
            refine L.ltI rfl rfl rfl ?_
            refine L.move rfl rfl ?_
            refine L.known (t := 53) rfl (show _ = Value.bool false from congrArg Value.bool (decide_eq_false (by omega))) ?_
            refine L.guardF (dj := 53) (c := false) rfl rfl rfl rfl rfl (by decide) ?_
            refine L.guardF (dj := 53) (c := false) rfl rfl rfl rfl rfl (by decide) ?_
            refine L.guardF (dj := 53) (c := false) rfl rfl rfl rfl rfl (by decide) ?_
            refine L.guardF (dj := 53) (c := false) rfl rfl rfl rfl rfl (by decide) ?_
            refine L.pickF rfl rfl rfl ?_
            refine L.move rfl rfl ?_
            refine L.guardT (dj := 59) rfl rfl rfl ?_
            refine L.move rfl rfl ?_
            refine L.guardT (dj := 59) rfl rfl rfl ?_
            refine L.geI rfl rfl rfl ?_
            refine L.guardT (dj := 59) rfl rfl rfl ?_
            refine L.move rfl rfl ?_
            refine L.known (t := 62) rfl (show _ = Value.bool true from congrArg Value.bool (decide_eq_true (by omega))) ?_
            refine L.guardT (dj := 62) rfl rfl rfl ?_
            refine L.move rfl rfl ?_
            refine L.guardT (dj := 62) rfl rfl rfl ?_
            refine L.neI rfl rfl rfl ?_
            refine L.guardT (dj := 59) rfl rfl rfl ?_
            refine L.pickT rfl rfl rfl ?_
            refine L.pickF rfl rfl rfl ?_
            refine L.nil ?_
            refine T.thenN ?_
            exact T.toJoin ⟨_, (decide_eq_false (by rw [if_neg (by omega)] at hgot; omega)), rfl, rfl, rfl⟩ (.cons (t := 66) rfl <| SubK.nil _) (.cons (t := 1) rfl <| .cons (t := 5) rfl <| .cons (t := 41) rfl <| .cons (t := 42) rfl <| SubK.nil _) qD qD qF
        rintro _ _ _ ⟨w, hw, rfl, rfl, rfl⟩
        refine T.norm3 qA qA qA ?_
        refine T.thenN ?_
        refine T.condF rfl hw ?_
        refine T.skip ?_
        refine T.blkN ?_
        refine T.thenN ?_
        refine T.region ?_
        refine L.addN rfl rfl rfl (by omega) ?_
        refine L.move rfl rfl ?_
        refine L.nil ?_
        refine T.thenN ?_
        exact T.back ⟨i + 1, (by omega), rfl, rfl, rfl, rfl⟩ qI (.cons (t := 42) rfl <| SubK.nil _) (.cons (t := 1) rfl <| .cons (t := 5) rfl <| .cons (t := 41) rfl <| SubK.nil _) qD qD qF
      · try simp only [decide_eq_true_eq, decide_eq_false_iff_not, Bool.not_eq_true', Bool.not_eq_false', Bool.and_eq_true, Bool.or_eq_true] at h43
        refine T.exit ?_
        refine T.thenX ?_
        refine T.thenX ?_
        refine T.blkX ?_
        refine T.thenN ?_
        refine T.seq ?_
        refine T.region ?_
        refine L.move rfl rfl ?_
        refine L.call rfl (evs.cons rfl <| evs.cons rfl <| evs.nil) qD qS (exp_spec (b := sb) (tm := sm) (t := bt (min n 64) (min k 8)) (now := 100) (fun q hq => (bt_rows hq).1)) ?_
        rintro _ _ _ ⟨rfl, rfl, rfl⟩
        refine L.norm qA qA ?_
        refine L.nil ?_
        refine T.thenN ?_
        refine T.seq ?_
        refine T.region ?_
        refine L.move rfl rfl ?_
        refine L.call rfl (evs.cons rfl <| evs.nil) qD qS (names_spec (b := sb) (tm := sm) (t := []) (by decide)) ?_
        rintro _ _ _ ⟨na, nn, nc, rfl, hnn, rfl, rfl⟩
        refine L.norm qA qA ?_
        refine L.lenSl rfl Try.underlying34 rfl ?_
        refine L.eqI rfl rfl rfl ?_
        refine L.assign rfl rfl ?_
        refine L.nil ?_
        refine T.thenN ?_
        refine T.ret ?_
        exact T.ret1 rfl rfl ⟨congrArg Value.bool (decide_eq_true (by simp at hnn; omega)), rfl, rfl⟩ qD qF
end Cv
