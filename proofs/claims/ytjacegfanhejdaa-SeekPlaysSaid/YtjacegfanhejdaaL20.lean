/-
  The walks: the walks of a search.
-/
import Derived.Test.YtjacegfanhejdaaS19
import Derived.Test.YtjacegfanhejdaaK20
import Derived.Test.YtjacegfanhejdaaCvLc
import Derived.Test.YtjacegfanhejdaaProg
import Derived.KernelRfl
set_option linter.unusedVariables false
set_option linter.unusedSimpArgs false
set_option linter.unusedSectionVars false
set_option maxRecDepth 10000
namespace Cv
open Go Go.Proofs
theorem kt3 : KeyT Try.prog 3 iK := keyT_int Try.underlying3
theorem zv68 : ∀ w, (zeroValue 68).run Try.prog w = .ok (Value.agg #[Value.int .i64 0, Value.int .i64 0]) w := fun w => by kernel_rfl
theorem fo62_2 : Fo Try.prog 62 2 33 := fun a w => by kernel_rfl
theorem sc60 : Sc Try.prog 60 := fun w => ⟨by kernel_rfl, by kernel_rfl⟩
theorem ze68 : Ze Try.prog 68 [Value.int .i64 0, Value.int .i64 0] := ⟨_, rfl, zv68⟩
theorem ag68 : Ag Try.prog 68 2 := fun w => ⟨by kernel_rfl, by kernel_rfl⟩
theorem fo62_1 : Fo Try.prog 62 1 32 := fun a w => by kernel_rfl
theorem bu68 : Bu Try.prog 68 [Value.int .i64 0, Value.int .i64 0] (fun (i : Nat) => ([(0, 1), (1, 1)] : List (Nat × Nat))[i]?) := bu_of Try.underlying68 zv68 rfl (fun w => by kernel_rfl)
theorem fo62_3 : Fo Try.prog 62 3 34 := fun a w => by kernel_rfl
theorem sc28 : Sc Try.prog 28 := fun w => ⟨by kernel_rfl, by kernel_rfl⟩
theorem zv62 : ∀ w, (zeroValue 62).run Try.prog w = .ok (Value.agg #[Value.int .u8 0, Value.int .u8 0, Value.int .u8 0, Value.int .u8 0, Value.int .u8 0, Value.int .u8 0, Value.int .u8 0, Value.int .u8 0, Value.int .u8 0, Value.int .u8 0, Value.int .u8 0, Value.int .u8 0, Value.int .u8 0, Value.int .u8 0, Value.int .u8 0, Value.int .u8 0, Value.int .u8 0, Value.int .u8 0, Value.int .u8 0, Value.int .u8 0, Value.int .u8 0, Value.int .u8 0, Value.int .u8 0, Value.int .u8 0, Value.int .u8 0, Value.int .u8 0, Value.int .u8 0, Value.int .u8 0, Value.int .u8 0, Value.int .u8 0, Value.int .u8 0, Value.int .u8 0, Value.int .i64 0, Value.map none, Value.map none]) w := fun w => by kernel_rfl
theorem bu62 : Bu Try.prog 62 (Value.int .u8 0 :: Value.int .u8 0 :: Value.int .u8 0 :: Value.int .u8 0 :: Value.int .u8 0 :: Value.int .u8 0 :: Value.int .u8 0 :: Value.int .u8 0 :: Value.int .u8 0 :: Value.int .u8 0 :: Value.int .u8 0 :: Value.int .u8 0 :: Value.int .u8 0 :: Value.int .u8 0 :: Value.int .u8 0 :: Value.int .u8 0 :: Value.int .u8 0 :: Value.int .u8 0 :: Value.int .u8 0 :: Value.int .u8 0 :: Value.int .u8 0 :: Value.int .u8 0 :: Value.int .u8 0 :: Value.int .u8 0 :: Value.int .u8 0 :: Value.int .u8 0 :: Value.int .u8 0 :: Value.int .u8 0 :: Value.int .u8 0 :: Value.int .u8 0 :: Value.int .u8 0 :: Value.int .u8 0 :: Value.int .i64 0 :: Value.map none :: Value.map none :: []) (fun (i : Nat) => ([(0, 32), (32, 1), (33, 1), (34, 1)] : List (Nat × Nat))[i]?) := bu_of Try.underlying62 zv62 rfl (fun w => by kernel_rfl)
theorem fo68_0 : Fo Try.prog 68 0 0 := fun a w => by kernel_rfl
theorem fo62_0 : Fo Try.prog 62 0 0 := fun a w => by kernel_rfl
set_option maxHeartbeats 400000 in
theorem meet_spec {b m1 m2 : Nat} {g : List UInt8} {o : Int} {lo : OfM} {a : Option Addr} {len cap : Nat} {ns : List Int} (hg : g.length = 32) (hb : len ≤ 4611686018427387000) : Spec Try.prog 28 [.pointer (some ⟨b, 0, none⟩), .slice a len cap] [cl b 62 (hdrS g o m1 m2), rsl 1 a len cap (ns.map e3)] [mp m1 iK oneV (lo)] (fun v D' M' => v = .tuple #[] ∧ D' = [] ∧ M' = [mp m1 iK oneV (meetF o lo ns)]) := by
  refine Spec.intro (n := 48) Try.func28 rfl rfl (by decide) (Nat.le_of_ble_eq_true rfl) rfl (fun _ => qA) (fun _ => qA) ?_
  intro σ D M
  refine T.rslLen2 (rows := ns.map e3) qM (fun hnl hnc => ?_)
  rw [List.length_map] at hnl
  refine T.seq ?_
  refine T.region ?_
  refine L.move rfl rfl ?_
  refine L.lenSl rfl Try.underlying22 rfl ?_
  refine L.move rfl rfl ?_
  refine L.nil ?_
  refine T.thenN ?_
  refine T.block ?_
  refine T.loop (fun K' D' M' μ => ∃ (i : Nat), (i ≤ len) ∧ K' = [(10, .int .i64 i)] ∧ D' = [] ∧ M' = [mp m1 iK oneV (meetF o lo (ns.take i))] ∧ μ = len - i) (.cons (t := 0) rfl <| .cons (t := 8) rfl <| .cons (t := 9) rfl <| SubK.nil _) (⟨0, Nat.zero_le _, rfl, rfl, rfl, rfl⟩) (.cons (t := 10) rfl <| SubK.nil _) qD qS ?_
  rintro K1 D1 M1 m1 ⟨i, hi, rfl, rfl, rfl, rfl⟩
  refine T.norm3 qA qA qA ?_
  refine T.seq ?_
  refine T.region ?_
  refine L.ltI rfl rfl rfl ?_
  refine L.nil ?_
  refine T.thenN ?_
  refine T.seq ?_
  refine T.cond rfl (fun h11 => ?_) (fun h11 => ?_)
  · try simp only [decide_eq_true_eq, decide_eq_false_iff_not, Bool.not_eq_true', Bool.not_eq_false', Bool.and_eq_true, Bool.or_eq_true] at h11
    refine T.skip ?_
    refine T.thenN ?_
    refine T.seq ?_
    refine T.block ?_
    refine T.seq ?_
    have hn0 : ns[i]? = some (gd ns i) := gd_get (by omega)
    obtain ⟨n, hnn⟩ : ∃ n, n = gd ns i := ⟨_, rfl⟩
    rw [← hnn] at hn0
    obtain ⟨lm, hlm⟩ : ∃ lm, lm = meetF o lo (ns.take i) := ⟨_, rfl⟩
    rw [← hlm]
    refine T.region ?_
    refine L.idx (i := i) rfl Try.underlying22 sz3 rfl rfl qM (by first | rfl | omega | (simp; done)) qG (fun b12 o12 => ?_)
    refine L.load rfl sc3 rfl qC ?_
    refine L.assign rfl rfl ?_
    refine L.nil ?_
    refine T.thenN ?_
    refine T.seq ?_
    refine T.region ?_
    refine L.move rfl rfl ?_
    refine L.nilCheck rfl rfl ?_
    first | refine L.field0 rfl fo62_2 rfl ?_ | refine L.field rfl fo62_2 rfl ?_
    refine L.load rfl sc60 rfl qC ?_
    refine L.move rfl rfl ?_
    refine L.lookup2 (kenc := iK) (venc := oneV) (l := lm) (k := n) rfl Try.underlying60 kt3 zv68 rfl rfl qM ?_
    obtain ⟨p, hp⟩ : ∃ p, p = (look (lm) n).getD (0, 0) := ⟨_, rfl⟩
    refine L.known (t := 20) (u := .tuple #[.agg #[.int .i64 p.1, .int .i64 p.2], .bool (look (lm) n).isSome]) rfl (by rw [one_get, ← hp]) ?_
    refine L.move rfl rfl ?_
    refine L.extract rfl rfl rfl ?_
    refine L.extract rfl rfl rfl ?_
    refine L.alloc rfl ze68 (fun b6 => ?_)
    refine L.storeA ag68 rfl rfl qL qO qU qW ?_
    refine L.assign rfl rfl ?_
    refine L.nil ?_
    refine T.thenN ?_
    refine T.seq ?_
    refine T.cutC (fun K' D' M' => ∃ (w : Bool), (w = true ↔ (look lm n = none ∧ May o n)) ∧ K' = [(40, .bool w)] ∧ D' = [] ∧ M' = []) (M0 := []) (.cons (t := 0) rfl <| .cons (t := 5) rfl <| .cons (t := 8) rfl <| .cons (t := 9) rfl <| .cons (t := 10) rfl <| SubK.nil _) qS ?_ ?_
    · skip
      rcases may_cases o n (look lm n) with hs | ⟨hs, he⟩ | ⟨hs, he, hz⟩ | ⟨hs, he, hz⟩
      · skip
        refine T.region ?_
        refine L.move rfl rfl ?_
        refine L.notB rfl rfl ?_
        refine L.move rfl rfl ?_
        refine L.known (t := 25) rfl (show _ = Value.bool false from congrArg Value.bool (by rw [hs]; rfl)) ?_
        refine L.guardF (dj := 25) (c := false) rfl rfl rfl rfl rfl (by decide) ?_
        refine L.guardF (dj := 25) (c := false) rfl rfl rfl rfl rfl (by decide) ?_
        refine L.guardF (dj := 25) (c := false) rfl rfl rfl rfl rfl (by decide) ?_
        refine L.guardF (dj := 25) (c := false) rfl rfl rfl rfl rfl (by decide) ?_
        refine L.guardF (dj := 25) (c := false) rfl rfl rfl rfl rfl (by decide) ?_
        refine L.guardF (dj := 25) (c := false) rfl rfl rfl rfl rfl (by decide) ?_
        refine L.pickF rfl rfl rfl ?_
        refine L.move rfl rfl ?_
        refine L.guardF (dj := 33) (c := false) rfl rfl rfl rfl rfl (by decide) ?_
        refine L.guardF (dj := 33) (c := false) rfl rfl rfl rfl rfl (by decide) ?_
        refine L.pickF rfl rfl rfl ?_
        refine L.move rfl rfl ?_
        refine L.guardF (dj := 37) (c := false) rfl rfl rfl rfl rfl (by decide) ?_
        refine L.guardF (dj := 37) (c := false) rfl rfl rfl rfl rfl (by decide) ?_
        refine L.pickF rfl rfl rfl ?_
        refine L.nil ?_
        refine T.thenN ?_
        exact T.toJoin ⟨_, ⟨(fun h => by cases h), (fun h => by rw [h.1] at hs; cases hs)⟩, rfl, rfl, rfl⟩ (.cons (t := 40) rfl <| SubK.nil _) (.cons (t := 0) rfl <| .cons (t := 5) rfl <| .cons (t := 8) rfl <| .cons (t := 9) rfl <| .cons (t := 10) rfl <| SubK.nil _) qD qD qF
      · skip
        refine T.region ?_
        refine L.move rfl rfl ?_
        refine L.notB rfl rfl ?_
        refine L.move rfl rfl ?_
        refine L.known (t := 25) rfl (show _ = Value.bool true from congrArg Value.bool (by rw [hs]; rfl)) ?_
        refine L.guardT (dj := 25) rfl rfl rfl ?_
        refine L.move rfl rfl ?_
        refine L.guardT (dj := 25) rfl rfl rfl ?_
        refine L.move rfl rfl ?_
        refine L.guardT (dj := 25) rfl rfl rfl ?_
        refine L.nilCheck rfl rfl ?_
        refine L.guardT (dj := 25) rfl rfl rfl ?_
        first | refine L.field0 rfl fo62_1 rfl ?_ | refine L.field rfl fo62_1 rfl ?_
        refine L.guardT (dj := 25) rfl rfl rfl ?_
        refine L.load rfl sc3 rfl qC ?_
        refine L.guardT (dj := 25) rfl rfl rfl ?_
        refine L.neI rfl rfl rfl ?_
        refine L.pickT rfl rfl rfl ?_
        refine L.move rfl rfl ?_
        refine L.known (t := 33) rfl (show _ = Value.bool false from congrArg Value.bool (by simp [he])) ?_
        refine L.guardF (dj := 33) (c := false) rfl rfl rfl rfl rfl (by decide) ?_
        refine L.guardF (dj := 33) (c := false) rfl rfl rfl rfl rfl (by decide) ?_
        refine L.pickF rfl rfl rfl ?_
        refine L.move rfl rfl ?_
        refine L.guardF (dj := 37) (c := false) rfl rfl rfl rfl rfl (by decide) ?_
        refine L.guardF (dj := 37) (c := false) rfl rfl rfl rfl rfl (by decide) ?_
        refine L.pickF rfl rfl rfl ?_
        refine L.nil ?_
        refine T.thenN ?_
        exact T.toJoin ⟨_, ⟨(fun h => by simp [he] at h), (fun h => absurd he h.2.1)⟩, rfl, rfl, rfl⟩ (.cons (t := 40) rfl <| SubK.nil _) (.cons (t := 0) rfl <| .cons (t := 5) rfl <| .cons (t := 8) rfl <| .cons (t := 9) rfl <| .cons (t := 10) rfl <| SubK.nil _) qD qD qF
      · skip
        refine T.region ?_
        refine L.move rfl rfl ?_
        refine L.notB rfl rfl ?_
        refine L.move rfl rfl ?_
        refine L.known (t := 25) rfl (show _ = Value.bool true from congrArg Value.bool (by rw [hs]; rfl)) ?_
        refine L.guardT (dj := 25) rfl rfl rfl ?_
        refine L.move rfl rfl ?_
        refine L.guardT (dj := 25) rfl rfl rfl ?_
        refine L.move rfl rfl ?_
        refine L.guardT (dj := 25) rfl rfl rfl ?_
        refine L.nilCheck rfl rfl ?_
        refine L.guardT (dj := 25) rfl rfl rfl ?_
        first | refine L.field0 rfl fo62_1 rfl ?_ | refine L.field rfl fo62_1 rfl ?_
        refine L.guardT (dj := 25) rfl rfl rfl ?_
        refine L.load rfl sc3 rfl qC ?_
        refine L.guardT (dj := 25) rfl rfl rfl ?_
        refine L.neI rfl rfl rfl ?_
        refine L.pickT rfl rfl rfl ?_
        refine L.move rfl rfl ?_
        refine L.known (t := 33) rfl (show _ = Value.bool true from congrArg Value.bool (decide_eq_true he)) ?_
        refine L.guardT (dj := 33) rfl rfl rfl ?_
        refine L.move rfl rfl ?_
        refine L.guardT (dj := 33) rfl rfl rfl ?_
        refine L.geI rfl rfl rfl ?_
        refine L.pickT rfl rfl rfl ?_
        refine L.move rfl rfl ?_
        refine L.known (t := 37) rfl (show _ = Value.bool false from congrArg Value.bool (decide_eq_false hz)) ?_
        refine L.guardF (dj := 37) (c := false) rfl rfl rfl rfl rfl (by decide) ?_
        refine L.guardF (dj := 37) (c := false) rfl rfl rfl rfl rfl (by decide) ?_
        refine L.pickF rfl rfl rfl ?_
        refine L.nil ?_
        refine T.thenN ?_
        exact T.toJoin ⟨_, ⟨(fun h => by simp [hz] at h), (fun h => absurd h.2.2.1 hz)⟩, rfl, rfl, rfl⟩ (.cons (t := 40) rfl <| SubK.nil _) (.cons (t := 0) rfl <| .cons (t := 5) rfl <| .cons (t := 8) rfl <| .cons (t := 9) rfl <| .cons (t := 10) rfl <| SubK.nil _) qD qD qF
      · skip
        refine T.region ?_
        refine L.move rfl rfl ?_
        refine L.notB rfl rfl ?_
        refine L.move rfl rfl ?_
        refine L.known (t := 25) rfl (show _ = Value.bool true from congrArg Value.bool (by rw [hs]; rfl)) ?_
        refine L.guardT (dj := 25) rfl rfl rfl ?_
        refine L.move rfl rfl ?_
        refine L.guardT (dj := 25) rfl rfl rfl ?_
        refine L.move rfl rfl ?_
        refine L.guardT (dj := 25) rfl rfl rfl ?_
        refine L.nilCheck rfl rfl ?_
        refine L.guardT (dj := 25) rfl rfl rfl ?_
        first | refine L.field0 rfl fo62_1 rfl ?_ | refine L.field rfl fo62_1 rfl ?_
        refine L.guardT (dj := 25) rfl rfl rfl ?_
        refine L.load rfl sc3 rfl qC ?_
        refine L.guardT (dj := 25) rfl rfl rfl ?_
        refine L.neI rfl rfl rfl ?_
        refine L.pickT rfl rfl rfl ?_
        refine L.move rfl rfl ?_
        refine L.known (t := 33) rfl (show _ = Value.bool true from congrArg Value.bool (decide_eq_true he)) ?_
        refine L.guardT (dj := 33) rfl rfl rfl ?_
        refine L.move rfl rfl ?_
        refine L.guardT (dj := 33) rfl rfl rfl ?_
        refine L.geI rfl rfl rfl ?_
        refine L.pickT rfl rfl rfl ?_
        refine L.move rfl rfl ?_
        refine L.known (t := 37) rfl (show _ = Value.bool true from congrArg Value.bool (decide_eq_true hz)) ?_
        refine L.guardT (dj := 37) rfl rfl rfl ?_
        refine L.move rfl rfl ?_
        refine L.guardT (dj := 37) rfl rfl rfl ?_
        refine L.ltI rfl rfl rfl ?_
        refine L.pickT rfl rfl rfl ?_
        refine L.nil ?_
        refine T.thenN ?_
        exact T.toJoin ⟨_, (by rw [decide_eq_true_eq]; exact ⟨fun h => ⟨hs, he, hz, h⟩, fun h => h.2.2.2⟩), rfl, rfl, rfl⟩ (.cons (t := 40) rfl <| SubK.nil _) (.cons (t := 0) rfl <| .cons (t := 5) rfl <| .cons (t := 8) rfl <| .cons (t := 9) rfl <| .cons (t := 10) rfl <| SubK.nil _) qD qD qF
    rintro _ _ _ ⟨w, hw, rfl, rfl, rfl⟩
    refine T.norm3 qA qA qA ?_
    refine T.thenN ?_
    refine T.cond rfl (fun h40 => ?_) (fun h40 => ?_)
    · try simp only [decide_eq_true_eq, decide_eq_false_iff_not, Bool.not_eq_true', Bool.not_eq_false', Bool.and_eq_true, Bool.or_eq_true] at h40
      refine T.region ?_
      refine L.move rfl rfl ?_
      refine L.nilCheck rfl rfl ?_
      first | refine L.field0 rfl fo62_2 rfl ?_ | refine L.field rfl fo62_2 rfl ?_
      refine L.load rfl sc60 rfl qC ?_
      refine L.move rfl rfl ?_
      refine L.build rfl bu68 (BP.doneE (out := [Value.int .i64 0, Value.int .i64 0]) rfl) ?_
      refine L.mapUpdate (kenc := iK) (venc := oneV) (l := lm) (k := n) (v := (0, 0)) Try.underlying60 kt3 rfl rfl rfl rfl qP ?_
      refine L.nil ?_
      refine T.blkN ?_
      refine T.thenN ?_
      refine T.region ?_
      refine L.addN rfl rfl rfl (by omega) ?_
      refine L.move rfl rfl ?_
      refine L.nil ?_
      refine T.thenN ?_
      refine T.eqv qP (show mp m1 iK oneV (put lm n (0, 0)) = mp m1 iK oneV (meetF o lo (ns.take (i + 1))) from by unfold meetF at hlm ⊢; rw [fold_snoc hn0, ← hlm, meet1, if_pos (hw.1 h40)]) ?_
      exact T.back ⟨i + 1, (by omega), rfl, rfl, rfl, rfl⟩ qI (.cons (t := 10) rfl <| SubK.nil _) (.cons (t := 0) rfl <| .cons (t := 8) rfl <| .cons (t := 9) rfl <| SubK.nil _) qD qD qF
    · try simp only [decide_eq_true_eq, decide_eq_false_iff_not, Bool.not_eq_true', Bool.not_eq_false', Bool.and_eq_true, Bool.or_eq_true] at h40
      refine T.skip ?_
      refine T.blkN ?_
      refine T.thenN ?_
      refine T.region ?_
      refine L.addN rfl rfl rfl (by omega) ?_
      refine L.move rfl rfl ?_
      refine L.nil ?_
      refine T.thenN ?_
      refine T.eqv qP (show mp m1 iK oneV lm = mp m1 iK oneV (meetF o lo (ns.take (i + 1))) from by unfold meetF at hlm ⊢; rw [fold_snoc hn0, ← hlm, meet1, if_neg (fun e => by rw [hw.2 e] at h40; cases h40)]) ?_
      exact T.back ⟨i + 1, (by omega), rfl, rfl, rfl, rfl⟩ qI (.cons (t := 10) rfl <| SubK.nil _) (.cons (t := 0) rfl <| .cons (t := 8) rfl <| .cons (t := 9) rfl <| SubK.nil _) qD qD qF
  · try simp only [decide_eq_true_eq, decide_eq_false_iff_not, Bool.not_eq_true', Bool.not_eq_false', Bool.and_eq_true, Bool.or_eq_true] at h11
    obtain rfl : i = len := by omega
    rw [List.take_of_length_le (by omega)]
    refine T.exit ?_
    refine T.thenX ?_
    refine T.thenX ?_
    refine T.blkX ?_
    exact T.retN (by simp) rfl ⟨rfl, rfl, rfl⟩ qD qF
set_option maxHeartbeats 400000 in
theorem has_spec {b m1 m2 : Nat} {g : List UInt8} {o : Int} {lh : List (Int × Int)} {a : Option Addr} {len cap : Nat} {ns : List Int} (hg : g.length = 32) (hb : len ≤ 9223372036854775807) : Spec Try.prog 9 [.pointer (some ⟨b, 0, none⟩), .slice a len cap] [cl b 62 (hdrS g o m1 m2), rsl 1 a len cap (ns.map e3)] [mp m2 iK iK (lh)] (fun v D' M' => v = .tuple #[] ∧ D' = [] ∧ M' = [mp m2 iK iK (hasF o lh ns)]) := by
  refine Spec.intro (n := 32) Try.func9 rfl rfl (by decide) (Nat.le_of_ble_eq_true rfl) rfl (fun _ => qA) (fun _ => qA) ?_
  intro σ D M
  refine T.rslLen2 (rows := ns.map e3) qM (fun hnl hnc => ?_)
  rw [List.length_map] at hnl
  refine T.seq ?_
  refine T.region ?_
  refine L.move rfl rfl ?_
  refine L.lenSl rfl Try.underlying22 rfl ?_
  refine L.move rfl rfl ?_
  refine L.nil ?_
  refine T.thenN ?_
  refine T.block ?_
  refine T.loop (fun K' D' M' μ => ∃ (i : Nat), (i ≤ len) ∧ K' = [(8, .int .i64 i)] ∧ D' = [] ∧ M' = [mp m2 iK iK (hasF o lh (ns.take i))] ∧ μ = len - i) (.cons (t := 0) rfl <| .cons (t := 6) rfl <| .cons (t := 7) rfl <| SubK.nil _) (⟨0, Nat.zero_le _, rfl, rfl, rfl, rfl⟩) (.cons (t := 8) rfl <| SubK.nil _) qD qS ?_
  rintro K1 D1 M1 m1 ⟨i, hi, rfl, rfl, rfl, rfl⟩
  refine T.norm3 qA qA qA ?_
  refine T.seq ?_
  refine T.region ?_
  refine L.ltI rfl rfl rfl ?_
  refine L.nil ?_
  refine T.thenN ?_
  refine T.seq ?_
  refine T.cond rfl (fun h9 => ?_) (fun h9 => ?_)
  · try simp only [decide_eq_true_eq, decide_eq_false_iff_not, Bool.not_eq_true', Bool.not_eq_false', Bool.and_eq_true, Bool.or_eq_true] at h9
    refine T.skip ?_
    refine T.thenN ?_
    refine T.seq ?_
    refine T.block ?_
    refine T.seq ?_
    have hn0 : ns[i]? = some (gd ns i) := gd_get (by omega)
    obtain ⟨n, hnn⟩ : ∃ n, n = gd ns i := ⟨_, rfl⟩
    rw [← hnn] at hn0
    obtain ⟨lm, hlm⟩ : ∃ lm, lm = hasF o lh (ns.take i) := ⟨_, rfl⟩
    rw [← hlm]
    refine T.region ?_
    refine L.idx (i := i) rfl Try.underlying22 sz3 rfl rfl qM (by first | rfl | omega | (simp; done)) qG (fun b10 o10 => ?_)
    refine L.load rfl sc3 rfl qC ?_
    refine L.assign rfl rfl ?_
    refine L.nil ?_
    refine T.thenN ?_
    refine T.seq ?_
    refine T.cutC (fun K' D' M' => ∃ (w : Bool), (w = true ↔ May o n) ∧ K' = [(25, .bool w)] ∧ D' = [] ∧ M' = []) (M0 := []) (.cons (t := 0) rfl <| .cons (t := 5) rfl <| .cons (t := 6) rfl <| .cons (t := 7) rfl <| .cons (t := 8) rfl <| SubK.nil _) qS ?_ ?_
    · skip
      rcases may3 o n with he | ⟨he, hz⟩ | ⟨he, hz⟩
      · skip
        refine T.region ?_
        refine L.move rfl rfl ?_
        refine L.move rfl rfl ?_
        refine L.nilCheck rfl rfl ?_
        first | refine L.field0 rfl fo62_1 rfl ?_ | refine L.field rfl fo62_1 rfl ?_
        refine L.load rfl sc3 rfl qC ?_
        refine L.neI rfl rfl rfl ?_
        refine L.move rfl rfl ?_
        refine L.known (t := 18) rfl (show _ = Value.bool false from congrArg Value.bool (by simp [he])) ?_
        refine L.guardF (dj := 18) (c := false) rfl rfl rfl rfl rfl (by decide) ?_
        refine L.guardF (dj := 18) (c := false) rfl rfl rfl rfl rfl (by decide) ?_
        refine L.pickF rfl rfl rfl ?_
        refine L.move rfl rfl ?_
        refine L.guardF (dj := 22) (c := false) rfl rfl rfl rfl rfl (by decide) ?_
        refine L.guardF (dj := 22) (c := false) rfl rfl rfl rfl rfl (by decide) ?_
        refine L.pickF rfl rfl rfl ?_
        refine L.nil ?_
        refine T.thenN ?_
        exact T.toJoin ⟨_, ⟨(fun h => by simp [he] at h), (fun h => absurd he h.1)⟩, rfl, rfl, rfl⟩ (.cons (t := 25) rfl <| SubK.nil _) (.cons (t := 0) rfl <| .cons (t := 5) rfl <| .cons (t := 6) rfl <| .cons (t := 7) rfl <| .cons (t := 8) rfl <| SubK.nil _) qD qD qF
      · skip
        refine T.region ?_
        refine L.move rfl rfl ?_
        refine L.move rfl rfl ?_
        refine L.nilCheck rfl rfl ?_
        first | refine L.field0 rfl fo62_1 rfl ?_ | refine L.field rfl fo62_1 rfl ?_
        refine L.load rfl sc3 rfl qC ?_
        refine L.neI rfl rfl rfl ?_
        refine L.move rfl rfl ?_
        refine L.known (t := 18) rfl (show _ = Value.bool true from congrArg Value.bool (decide_eq_true he)) ?_
        refine L.guardT (dj := 18) rfl rfl rfl ?_
        refine L.move rfl rfl ?_
        refine L.guardT (dj := 18) rfl rfl rfl ?_
        refine L.geI rfl rfl rfl ?_
        refine L.pickT rfl rfl rfl ?_
        refine L.move rfl rfl ?_
        refine L.known (t := 22) rfl (show _ = Value.bool false from congrArg Value.bool (decide_eq_false hz)) ?_
        refine L.guardF (dj := 22) (c := false) rfl rfl rfl rfl rfl (by decide) ?_
        refine L.guardF (dj := 22) (c := false) rfl rfl rfl rfl rfl (by decide) ?_
        refine L.pickF rfl rfl rfl ?_
        refine L.nil ?_
        refine T.thenN ?_
        exact T.toJoin ⟨_, ⟨(fun h => by simp [hz] at h), (fun h => absurd h.2.1 hz)⟩, rfl, rfl, rfl⟩ (.cons (t := 25) rfl <| SubK.nil _) (.cons (t := 0) rfl <| .cons (t := 5) rfl <| .cons (t := 6) rfl <| .cons (t := 7) rfl <| .cons (t := 8) rfl <| SubK.nil _) qD qD qF
      · skip
        refine T.region ?_
        refine L.move rfl rfl ?_
        refine L.move rfl rfl ?_
        refine L.nilCheck rfl rfl ?_
        first | refine L.field0 rfl fo62_1 rfl ?_ | refine L.field rfl fo62_1 rfl ?_
        refine L.load rfl sc3 rfl qC ?_
        refine L.neI rfl rfl rfl ?_
        refine L.move rfl rfl ?_
        refine L.known (t := 18) rfl (show _ = Value.bool true from congrArg Value.bool (decide_eq_true he)) ?_
        refine L.guardT (dj := 18) rfl rfl rfl ?_
        refine L.move rfl rfl ?_
        refine L.guardT (dj := 18) rfl rfl rfl ?_
        refine L.geI rfl rfl rfl ?_
        refine L.pickT rfl rfl rfl ?_
        refine L.move rfl rfl ?_
        refine L.known (t := 22) rfl (show _ = Value.bool true from congrArg Value.bool (decide_eq_true hz)) ?_
        refine L.guardT (dj := 22) rfl rfl rfl ?_
        refine L.move rfl rfl ?_
        refine L.guardT (dj := 22) rfl rfl rfl ?_
        refine L.ltI rfl rfl rfl ?_
        refine L.pickT rfl rfl rfl ?_
        refine L.nil ?_
        refine T.thenN ?_
        exact T.toJoin ⟨_, (by rw [decide_eq_true_eq]; exact ⟨fun h => ⟨he, hz, h⟩, fun h => h.2.2⟩), rfl, rfl, rfl⟩ (.cons (t := 25) rfl <| SubK.nil _) (.cons (t := 0) rfl <| .cons (t := 5) rfl <| .cons (t := 6) rfl <| .cons (t := 7) rfl <| .cons (t := 8) rfl <| SubK.nil _) qD qD qF
    rintro _ _ _ ⟨w, hw, rfl, rfl, rfl⟩
    refine T.norm3 qA qA qA ?_
    refine T.thenN ?_
    refine T.cond rfl (fun h25 => ?_) (fun h25 => ?_)
    · try simp only [decide_eq_true_eq, decide_eq_false_iff_not, Bool.not_eq_true', Bool.not_eq_false', Bool.and_eq_true, Bool.or_eq_true] at h25
      refine T.region ?_
      refine L.move rfl rfl ?_
      refine L.nilCheck rfl rfl ?_
      first | refine L.field0 rfl fo62_3 rfl ?_ | refine L.field rfl fo62_3 rfl ?_
      refine L.load rfl sc28 rfl qC ?_
      refine L.move rfl rfl ?_
      refine L.mapUpdate (kenc := iK) (venc := iK) (l := lm) (k := n) (v := 1) Try.underlying28 kt3 rfl rfl rfl rfl qP ?_
      refine L.nil ?_
      refine T.blkN ?_
      refine T.thenN ?_
      refine T.region ?_
      refine L.addN rfl rfl rfl (by omega) ?_
      refine L.move rfl rfl ?_
      refine L.nil ?_
      refine T.thenN ?_
      refine T.eqv qP (show mp m2 iK iK (put lm n 1) = mp m2 iK iK (hasF o lh (ns.take (i + 1))) from by unfold hasF at hlm ⊢; rw [fold_snoc hn0, ← hlm, has1, if_pos (hw.1 h25)]) ?_
      exact T.back ⟨i + 1, (by omega), rfl, rfl, rfl, rfl⟩ qI (.cons (t := 8) rfl <| SubK.nil _) (.cons (t := 0) rfl <| .cons (t := 6) rfl <| .cons (t := 7) rfl <| SubK.nil _) qD qD qF
    · try simp only [decide_eq_true_eq, decide_eq_false_iff_not, Bool.not_eq_true', Bool.not_eq_false', Bool.and_eq_true, Bool.or_eq_true] at h25
      refine T.skip ?_
      refine T.blkN ?_
      refine T.thenN ?_
      refine T.region ?_
      refine L.addN rfl rfl rfl (by omega) ?_
      refine L.move rfl rfl ?_
      refine L.nil ?_
      refine T.thenN ?_
      refine T.eqv qP (show mp m2 iK iK lm = mp m2 iK iK (hasF o lh (ns.take (i + 1))) from by unfold hasF at hlm ⊢; rw [fold_snoc hn0, ← hlm, has1, if_neg (fun e => by rw [hw.2 e] at h25; cases h25)]) ?_
      exact T.back ⟨i + 1, (by omega), rfl, rfl, rfl, rfl⟩ qI (.cons (t := 8) rfl <| SubK.nil _) (.cons (t := 0) rfl <| .cons (t := 6) rfl <| .cons (t := 7) rfl <| SubK.nil _) qD qD qF
  · try simp only [decide_eq_true_eq, decide_eq_false_iff_not, Bool.not_eq_true', Bool.not_eq_false', Bool.and_eq_true, Bool.or_eq_true] at h9
    obtain rfl : i = len := by omega
    rw [List.take_of_length_le (by omega)]
    refine T.exit ?_
    refine T.thenX ?_
    refine T.thenX ?_
    refine T.blkX ?_
    exact T.retN (by simp) rfl ⟨rfl, rfl, rfl⟩ qD qF
set_option maxHeartbeats 400000 in
theorem snew_spec {g : List UInt8} {o : Int} {a : Option Addr} {len cap : Nat} {ns : List Int} (hg : g.length = 32) (hb : len ≤ 4611686018427387000) : Spec Try.prog 8 [.agg (g.map Y).toArray, .int .i64 o, .slice a len cap] [rsl 1 a len cap (ns.map e3)] [] (fun v D' M' => ∃ (b m1 m2 : Nat), v = .pointer (some ⟨b, 0, none⟩) ∧ D' = [cl b 62 (hdrS g o m1 m2)] ∧ M' = [mp m1 iK oneV (meetF o [] ns), mp m2 iK iK ([])]) := by
  refine Spec.intro (n := 18) Try.func8 rfl rfl (by decide) (Nat.le_of_ble_eq_true rfl) rfl (fun _ => qA) (fun _ => qA) ?_
  intro σ D M
  refine T.seq ?_
  refine T.region ?_
  refine L.box rfl rfl rfl (fun b3 => ?_)
  refine L.assign rfl rfl ?_
  refine L.nil ?_
  refine T.thenN ?_
  refine T.seq ?_
  refine T.region ?_
  refine L.loadA rfl ag27 rfl qN ?_
  refine L.move rfl rfl ?_
  refine L.makeMap iK oneV rfl (fun m1 => ?_)
  refine L.makeMap iK iK rfl (fun m2 => ?_)
  refine L.build rfl bu62 (BP.agg rfl rfl (by first | with_reducible assumption | (simp; done) | (simp only [List.length_map]; with_reducible assumption) | (simp [*]; done) | rfl) (Nat.le_of_ble_eq_true rfl) qR <| BP.one rfl rfl rfl <| BP.one rfl rfl rfl <| BP.one rfl rfl rfl <| BP.doneE (out := []) rfl) ?_
  refine L.box rfl rfl rfl (fun b13 => ?_)
  refine L.assign rfl rfl ?_
  refine L.nil ?_
  refine T.freeze (A := cl b13 62 (hdrS g o m1 m2)) qP ?_
  refine T.thenN ?_
  refine T.seq ?_
  refine T.region ?_
  refine L.move rfl rfl ?_
  refine L.move rfl rfl ?_
  refine L.call rfl (evs.cons rfl <| evs.cons rfl <| evs.nil) qD qS (meet_spec (lo := []) hg hb) ?_
  rintro _ _ _ ⟨rfl, rfl, rfl⟩
  refine L.norm qA qA ?_
  refine L.nil ?_
  refine T.thenN ?_
  refine T.seq ?_
  refine T.region ?_
  refine L.move rfl rfl ?_
  refine L.assign rfl rfl ?_
  refine L.nil ?_
  refine T.thenN ?_
  refine T.ret ?_
  exact T.ret1 rfl rfl ⟨_, _, _, rfl, rfl, rfl⟩ qD qF
set_option maxHeartbeats 400000 in
theorem scount_spec {b m1 m2 : Nat} {g : List UInt8} {o : Int} {lo : OfM} {st : Int} (hg : g.length = 32) (hlo : lo.length ≤ 1000000) : Spec Try.prog 32 [.pointer (some ⟨b, 0, none⟩), .int .i64 st] [cl b 62 (hdrS g o m1 m2)] [mp m1 iK oneV (lo)] (fun v D' M' => v = .int .i64 (cntS lo st : Int) ∧ D' = [] ∧ M' = [mp m1 iK oneV (lo)]) := by
  refine Spec.intro (n := 24) Try.func32 rfl rfl (by decide) (Nat.le_of_ble_eq_true rfl) rfl (fun _ => qA) (fun _ => qA) ?_
  intro σ D M
  refine T.mpNodup (kenc := iK) (venc := oneV) qM (fun hnd => ?_)
  have hcl := cnt_le lo st
  refine T.seq ?_
  refine T.region ?_
  refine L.assign rfl rfl ?_
  refine L.nil ?_
  refine T.thenN ?_
  refine T.seq ?_
  refine T.region ?_
  refine L.assign rfl rfl ?_
  refine L.nil ?_
  refine T.thenN ?_
  refine T.seq ?_
  refine T.seq ?_
  refine T.region ?_
  refine L.move rfl rfl ?_
  refine L.nilCheck rfl rfl ?_
  first | refine L.field0 rfl fo62_2 rfl ?_ | refine L.field rfl fo62_2 rfl ?_
  refine L.load rfl sc60 rfl qC ?_
  refine L.range rfl Try.underlying60 rfl qP (fun it => ?_)
  refine L.nil ?_
  refine T.thenN ?_
  refine T.block ?_
  refine T.loop (fun K' D' M' μ => ∃ (c : Nat) (rest : List Int) (cur : Option Int), (CntI lo st c rest) ∧ K' = [(5, .int .i64 (c : Int))] ∧ D' = [] ∧ M' = [mpi m1 it iK oneV lo rest cur] ∧ μ = rest.length) (.cons (t := 1) rfl <| .cons (t := 12) rfl <| SubK.nil _) (⟨0, _, _, CntI.zero hnd, rfl, rfl, rfl, rfl⟩) (.cons (t := 5) rfl <| SubK.nil _) qD qS ?_
  rintro K1 D1 M1 m1 ⟨c, rest, cur, hC, rfl, rfl, rfl, rfl⟩
  refine T.norm3 qA qA qA ?_
  have hce := hC.eq
  refine T.seq ?_
  refine T.region ?_
  refine L.next rfl rfl qP (fun hre => ?_) (fun k v rs hpe hkv => ?_)
  · skip
    skip
    refine L.extract rfl rfl rfl ?_
    refine L.nil ?_
    refine T.thenN ?_
    refine T.seq ?_
    refine T.condF rfl rfl ?_
    refine T.exit ?_
    refine T.thenX ?_
    refine T.thenX ?_
    refine T.blkX ?_
    refine T.thenN ?_
    refine T.seq ?_
    subst hre
    refine T.mpiMp qP ?_
    refine T.region ?_
    refine L.move rfl rfl ?_
    refine L.assign rfl rfl ?_
    refine L.nil ?_
    refine T.thenN ?_
    refine T.ret ?_
    exact T.ret1 rfl rfl ⟨congrArg (Value.int .i64) (by rw [hC.fin]), rfl, rfl⟩ qD qF
  · skip
    skip
    refine L.extract rfl rfl rfl ?_
    refine L.nil ?_
    refine T.thenN ?_
    refine T.seq ?_
    refine T.condT rfl rfl ?_
    refine T.skip ?_
    refine T.thenN ?_
    refine T.block ?_
    refine T.seq ?_
    refine T.region ?_
    refine L.entry (ent_inj iK_inj hnd hkv) rfl rfl qM hkv ?_
    refine L.extract rfl rfl rfl ?_
    refine L.alloc rfl ze68 (fun b7 => ?_)
    refine L.storeA ag68 rfl rfl qL qO qU qW ?_
    refine L.nil ?_
    refine T.thenN ?_
    refine T.seq ?_
    refine T.region ?_
    first | refine L.field0 rfl fo68_0 rfl ?_ | refine L.field rfl fo68_0 rfl ?_
    refine L.load rfl sc3 rfl qC ?_
    refine L.move rfl rfl ?_
    refine L.eqI rfl rfl rfl ?_
    refine L.nil ?_
    refine T.thenN ?_
    refine T.cond rfl (fun h20 => ?_) (fun h20 => ?_)
    · try simp only [decide_eq_true_eq, decide_eq_false_iff_not, Bool.not_eq_true', Bool.not_eq_false', Bool.and_eq_true, Bool.or_eq_true] at h20
      refine T.region ?_
      refine L.move rfl rfl ?_
      refine L.addN rfl rfl rfl (by omega) ?_
      refine L.assign rfl rfl ?_
      refine L.nil ?_
      refine T.blkN ?_
      refine T.thenN ?_
      exact T.back ⟨c + 1, rs, some k, (by have := hC.step hnd hpe hkv; rwa [if_pos h20] at this), rfl, rfl, rfl, rfl⟩ (by have := hpe.length_eq; simp at this; omega) (.cons (t := 5) rfl <| SubK.nil _) (.cons (t := 1) rfl <| .cons (t := 12) rfl <| SubK.nil _) qD qD qF
    · try simp only [decide_eq_true_eq, decide_eq_false_iff_not, Bool.not_eq_true', Bool.not_eq_false', Bool.and_eq_true, Bool.or_eq_true] at h20
      refine T.skip ?_
      refine T.blkN ?_
      refine T.thenN ?_
      exact T.back ⟨c, rs, some k, (by have := hC.step hnd hpe hkv; rwa [if_neg h20] at this), rfl, rfl, rfl, rfl⟩ (by have := hpe.length_eq; simp at this; omega) (.cons (t := 5) rfl <| SubK.nil _) (.cons (t := 1) rfl <| .cons (t := 12) rfl <| SubK.nil _) qD qD qF
set_option maxHeartbeats 400000 in
theorem near_spec {b m1 m2 : Nat} {g : List UInt8} {o : Int} {lo : OfM} {k : Nat} (hg : g.length = 32) (hlo : lo.length ≤ 64) (hk : k ≤ 1000) : Spec Try.prog 31 [.pointer (some ⟨b, 0, none⟩), .int .i64 (k : Int)] [cl b 62 (hdrS g o m1 m2)] [mp m1 iK oneV (lo)] (fun v D' M' => ∃ (a' : Option Addr) (n' c' : Nat) (ys : List Int), v = .slice a' n' c' ∧ (SortedBy (cfG g) (liveK lo) ys) ∧ (n' = min k ys.length) ∧ D' = [] ∧ M' = [mp m1 iK oneV (lo), own 1 3 a' n' c' ((ys.take n').map e3)]) := by
  refine Spec.intro (n := 37) Try.func31 rfl rfl (by decide) (Nat.le_of_ble_eq_true rfl) rfl (fun _ => qA) (fun _ => qA) ?_
  intro σ D M
  refine T.mpNodup (kenc := iK) (venc := oneV) qM (fun hnd => ?_)
  refine T.seq ?_
  refine T.region ?_
  refine L.assign rfl rfl ?_
  refine L.nil ?_
  refine T.thenN ?_
  refine T.seq ?_
  refine T.region ?_
  refine L.assign rfl rfl ?_
  refine L.nil ?_
  refine T.thenN ?_
  refine T.seq ?_
  refine T.seq ?_
  refine T.region ?_
  refine L.move rfl rfl ?_
  refine L.nilCheck rfl rfl ?_
  first | refine L.field0 rfl fo62_2 rfl ?_ | refine L.field rfl fo62_2 rfl ?_
  refine L.load rfl sc60 rfl qC ?_
  refine L.range rfl Try.underlying60 rfl qP (fun it => ?_)
  refine L.nil ?_
  refine T.newOwn (sz := 1) (e := 3) ?_
  refine T.thenN ?_
  refine T.block ?_
  refine T.loop (fun K' D' M' μ => ∃ (a5 : Option Addr) (n5 c5 : Nat) (xs rest : List Int) (cur : Option Int), (NearI lo xs rest ∧ xs.length = n5) ∧ K' = [(5, .slice a5 n5 c5)] ∧ D' = [] ∧ M' = [mpi m1 it iK oneV lo rest cur, own 1 3 a5 n5 c5 ((xs).map e3)] ∧ μ = rest.length) (.cons (t := 0) rfl <| .cons (t := 1) rfl <| .cons (t := 12) rfl <| SubK.nil _) (⟨none, 0, 0, [], _, _, ⟨NearI.zero hnd, rfl⟩, rfl, rfl, rfl, rfl⟩) (.cons (t := 5) rfl <| SubK.nil _) qD qS ?_
  rintro K1 D1 M1 m1 ⟨a5, n5, c5, xs, rest, cur, ⟨hN, hxl⟩, rfl, rfl, rfl, rfl⟩
  refine T.norm3 qA qA qA ?_
  have hnl := hN.len
  refine T.seq ?_
  refine T.region ?_
  refine L.next rfl rfl qP (fun hre => ?_) (fun k1 v rs hpe hkv => ?_)
  · skip
    skip
    refine L.extract rfl rfl rfl ?_
    refine L.nil ?_
    refine T.thenN ?_
    refine T.seq ?_
    refine T.condF rfl rfl ?_
    refine T.exit ?_
    refine T.thenX ?_
    refine T.thenX ?_
    refine T.blkX ?_
    refine T.thenN ?_
    refine T.seq ?_
    subst hre
    refine T.mpiMp qP ?_
    refine T.ownRsl (rows := xs.map e3) qP ?_
    refine T.region ?_
    refine L.move rfl rfl ?_
    refine L.nilCheck rfl rfl ?_
    first | refine L.field0 rfl fo62_0 rfl ?_ | refine L.field rfl fo62_0 rfl ?_
    refine L.loadA rfl ag27 rfl qN ?_
    refine L.move rfl rfl ?_
    refine L.call rfl (evs.cons rfl <| evs.cons rfl <| evs.nil) qD qS (bsort_spec (xs := xs) hg (by omega)) ?_
    rintro _ _ _ ⟨sa, sc, ys, rfl, hS, rfl, rfl⟩
    refine L.norm qA qA ?_
    have hyl := hS.1.length_eq
    refine L.assign rfl rfl ?_
    refine L.nil ?_
    refine T.thenN ?_
    refine T.seq ?_
    refine T.ownLen (rows := ys.map e3) qM (fun _ hcap => ?_)
    refine T.region ?_
    refine L.move rfl rfl ?_
    refine L.move rfl rfl ?_
    refine L.move rfl rfl ?_
    refine L.lenSl rfl Try.underlying22 rfl ?_
    refine L.minI rfl rfl rfl ?_
    rw [show min (k : Int) (n5 : Int) = ((min k n5 : Nat) : Int) by omega]
    refine L.sliceTo rfl Try.underlying22 sz3 rfl (Bd.at (x := min k n5) rfl (by first | rfl | omega | (simp; done))) qI ?_
    refine L.assign rfl rfl ?_
    refine L.nil ?_
    refine T.ownTo (h := min k n5) qP (by omega) ?_
    refine T.ownEq _ ((ys.take (min k n5)).map e3) qP (by rw [List.map_take]) ?_
    refine T.thenN ?_
    refine T.ret ?_
    exact T.ret1 rfl rfl ⟨_, _, _, ys, rfl, ⟨hS.1.trans hN.fin, hS.2⟩, by omega, rfl, rfl⟩ qD qF
  · skip
    skip
    refine L.extract rfl rfl rfl ?_
    refine L.nil ?_
    refine T.thenN ?_
    refine T.seq ?_
    refine T.condT rfl rfl ?_
    refine T.skip ?_
    refine T.thenN ?_
    refine T.block ?_
    refine T.seq ?_
    refine T.region ?_
    refine L.entry (ent_inj iK_inj hnd hkv) rfl rfl qM hkv ?_
    refine L.extract rfl rfl rfl ?_
    refine L.extract rfl rfl rfl ?_
    refine L.alloc rfl ze68 (fun b7 => ?_)
    refine L.assign rfl rfl ?_
    refine L.storeA ag68 rfl rfl qL qO qU qW ?_
    refine L.nil ?_
    refine T.thenN ?_
    refine T.seq ?_
    refine T.region ?_
    first | refine L.field0 rfl fo68_0 rfl ?_ | refine L.field rfl fo68_0 rfl ?_
    refine L.load rfl sc3 rfl qC ?_
    refine L.neI rfl rfl rfl ?_
    refine L.nil ?_
    refine T.thenN ?_
    refine T.cond rfl (fun h20 => ?_) (fun h20 => ?_)
    · try simp only [decide_eq_true_eq, decide_eq_false_iff_not, Bool.not_eq_true', Bool.not_eq_false', Bool.and_eq_true, Bool.or_eq_true] at h20
      refine T.region ?_
      refine L.move rfl rfl ?_
      refine L.move rfl rfl ?_
      refine L.buildSlice rfl bs22 (by decide) (BP.one rfl rfl rfl <| BP.doneE (out := []) rfl) (fun b23 => ?_)
      refine L.append1 rfl Try.underlying22 el3 rfl rfl qP qM rfl qO1 qI qI (fun a24 c24 => ?_)
      refine L.assign rfl rfl ?_
      refine L.nil ?_
      refine T.blkN ?_
      refine T.thenN ?_
      refine T.ownEq _ ((xs ++ [k1]).map e3) qP (by rw [List.map_append]; rfl) ?_
      exact T.back ⟨_, n5 + 1, _, xs ++ [k1], rs, some k1, ⟨by have := hN.step hnd hpe hkv; rwa [if_pos h20] at this, by simp [hxl]⟩, rfl, rfl, rfl, rfl⟩ (by have := hpe.length_eq; simp at this; omega) (.cons (t := 5) rfl <| SubK.nil _) (.cons (t := 0) rfl <| .cons (t := 1) rfl <| .cons (t := 12) rfl <| SubK.nil _) qD qD qF
    · try simp only [decide_eq_true_eq, decide_eq_false_iff_not, Bool.not_eq_true', Bool.not_eq_false', Bool.and_eq_true, Bool.or_eq_true] at h20
      refine T.skip ?_
      refine T.blkN ?_
      refine T.thenN ?_
      exact T.back ⟨_, n5, _, xs, rs, some k1, ⟨by have := hN.step hnd hpe hkv; rwa [if_neg h20] at this, hxl⟩, rfl, rfl, rfl, rfl⟩ (by have := hpe.length_eq; simp at this; omega) (.cons (t := 5) rfl <| SubK.nil _) (.cons (t := 0) rfl <| .cons (t := 1) rfl <| .cons (t := 12) rfl <| SubK.nil _) qD qD qF
end Cv
