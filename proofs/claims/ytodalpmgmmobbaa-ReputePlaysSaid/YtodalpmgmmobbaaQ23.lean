/-
  The walk of the law that compares repute with its reference.
-/
import Derived.Test.YtodalpmgmmobbaaP23
import Derived.Test.YtodalpmgmmobbaaProg
import Derived.KernelRfl
set_option maxRecDepth 10000
set_option linter.unusedSimpArgs false
set_option linter.unusedVariables false
namespace Cv
open Go Go.Proofs

set_option maxHeartbeats 1000000 in
theorem plays_law (a aa : Option Addr) (len cap la ca : Nat) (xs : List (Int × Int × Int × List UInt8 × List UInt8)) (al : List Int) (hx : xs.length = len) (hg : ∀ x ∈ xs, g32 x) (hb : len ≤ 4611686018427387904) (hxa : al.length = la) (hba : la ≤ 4611686018427387904)  : Spec Try.prog 6 [.slice a len cap, .slice aa la ca] [rsl 5 a len cap (xs.map e32), rsl 1 aa la ca (al.map e3)] [] (fun v D' M' => v = .bool true ∧ D' = [] ∧ M' = []) := by
  refine Spec.intro (n := 206) Try.func6 rfl rfl (by decide) (Nat.le_of_ble_eq_true rfl) rfl (fun _ => qA) (fun _ => qA) ?_
  intro σ D M
  refine T.seq ?_
  refine T.region ?_
  refine L.assign rfl rfl ?_
  refine L.nil ?_
  refine T.thenN ?_
  refine T.seq ?_
  refine T.seq ?_
  refine T.region ?_
  refine L.call rfl (evs.nil) qD qS (awake_spec) ?_
  rintro _ _ _ ⟨rfl, rfl, rfl⟩
  refine L.norm qA qA ?_
  refine L.notB rfl rfl ?_
  refine L.nil ?_
  refine T.thenN ?_
  refine T.condF rfl rfl ?_
  refine T.skip ?_
  refine T.thenN ?_
  refine T.seq ?_
  refine T.region ?_
  refine L.call rfl (evs.nil) qD qS (rnew_spec) ?_
  rintro _ _ _ ⟨b, rfl, rfl, rfl⟩
  refine L.norm qA qA ?_
  refine L.assign rfl rfl ?_
  refine L.nil ?_
  refine T.thenN ?_
  refine T.seq ?_
  refine T.region ?_
  refine L.buildSlice rfl bs47 (by decide) (BP.doneE (out := []) rfl) (fun b27 => ?_)
  refine L.toOwn (len := 0) qP (rows := ([] : List (Int × Mind)).map rrow) (sz := 8) (by rfl) rfl (by simp) ?_
  refine L.ownRsl qP ?_
  refine L.assign rfl rfl ?_
  refine L.nil ?_
  refine T.thenN ?_
  refine T.seq ?_
  refine T.region ?_
  refine L.assign rfl rfl ?_
  refine L.nil ?_
  refine T.thenN ?_
  refine T.seq ?_
  refine T.seq ?_
  refine T.region ?_
  refine L.assign rfl rfl ?_
  refine L.nil ?_
  refine T.thenN ?_
  refine T.block ?_
  refine T.loop (fun K' D' M' μ => ∃ (i : Nat) (now : Int) (F : Int → Mind) (l : List (Int × Mind)) (la1 : Option Addr) (ll lc : Nat), ((i ≤ len ∧ i ≤ 60 ∧ 0 ≤ now ∧ now ≤ 15 * (i : Int)) ∧ PInv F l i) ∧ K' = [(8, .int .i64 i), (7, .int .i64 now), (6, .slice la1 ll lc)] ∧ D' = [rsl 8 la1 ll lc ((l).map rrow)] ∧ M' = [bookA b F] ∧ μ = 60 - i) (.cons (t := 0) rfl <| .cons (t := 1) rfl <| .cons (t := 5) rfl <| SubK.nil _) (⟨0, 0, _, [], _, _, _, ⟨by omega, pinv_0⟩, rfl, rfl, rfl, rfl⟩) (.cons (t := 8) rfl <| .cons (t := 7) rfl <| .cons (t := 6) rfl <| SubK.nil _) qD qS ?_
  rintro K1 D1 M1 m1 ⟨i, now, F, l, la1, ll, lc, ⟨⟨hi1, hi2, hi3, hi4⟩, hI⟩, rfl, rfl, rfl, rfl⟩
  refine T.norm3 qA qA qA ?_
  refine T.seq ?_
  refine T.seq ?_
  refine T.cutC (fun K' D' M' => ∃ (w : Bool), (w = true ↔ (i < len ∧ i < 60)) ∧ K' = [(35, .bool w)] ∧ D' = [] ∧ M' = []) (M0 := []) (.cons (t := 0) rfl <| .cons (t := 1) rfl <| .cons (t := 5) rfl <| .cons (t := 6) rfl <| .cons (t := 7) rfl <| .cons (t := 8) rfl <| SubK.nil _) qS ?_ ?_
  · skip
    refine T.region ?_
    refine L.move rfl rfl ?_
    refine L.move rfl rfl ?_
    refine L.lenSl rfl Try.underlying29 rfl ?_
    refine L.ltI rfl rfl rfl ?_
    refine L.move rfl rfl ?_
    refine L.part (t := 32) rfl (fun h1 => ?_) (fun h1 => ?_)
    · try simp only [decide_eq_true_eq, decide_eq_false_iff_not, Bool.not_eq_true', Bool.not_eq_false', Bool.and_eq_true, Bool.or_eq_true] at h1
      refine L.guardT (dj := 32) rfl rfl rfl ?_
      refine L.move rfl rfl ?_
      refine L.guardT (dj := 32) rfl rfl rfl ?_
      refine L.ltI rfl rfl rfl ?_
      refine L.pickT rfl rfl rfl ?_
      refine L.nil ?_
      refine T.thenN ?_
      exact T.toJoin ⟨_, (by simp; omega), rfl, rfl, rfl⟩ (.cons (t := 35) rfl <| SubK.nil _) (.cons (t := 0) rfl <| .cons (t := 1) rfl <| .cons (t := 5) rfl <| .cons (t := 6) rfl <| .cons (t := 7) rfl <| .cons (t := 8) rfl <| SubK.nil _) qD qD qF
    · try simp only [decide_eq_true_eq, decide_eq_false_iff_not, Bool.not_eq_true', Bool.not_eq_false', Bool.and_eq_true, Bool.or_eq_true] at h1
      refine L.guardF (dj := 32) (c := false) rfl rfl rfl rfl rfl (by decide) ?_
      refine L.guardF (dj := 32) (c := false) rfl rfl rfl rfl rfl (by decide) ?_
      refine L.pickF rfl rfl rfl ?_
      refine L.nil ?_
      refine T.thenN ?_
      exact T.toJoin ⟨_, (by simp; omega), rfl, rfl, rfl⟩ (.cons (t := 35) rfl <| SubK.nil _) (.cons (t := 0) rfl <| .cons (t := 1) rfl <| .cons (t := 5) rfl <| .cons (t := 6) rfl <| .cons (t := 7) rfl <| .cons (t := 8) rfl <| SubK.nil _) qD qD qF
  rintro _ _ _ ⟨w, hw, rfl, rfl, rfl⟩
  refine T.norm3 qA qA qA ?_
  refine T.thenN ?_
  refine T.cond rfl (fun h35 => ?_) (fun h35 => ?_)
  · try simp only [decide_eq_true_eq, decide_eq_false_iff_not, Bool.not_eq_true', Bool.not_eq_false', Bool.and_eq_true, Bool.or_eq_true] at h35
    have hwt := hw.1 h35
    refine T.skip ?_
    refine T.thenN ?_
    refine T.seq ?_
    refine T.block ?_
    refine T.seq ?_
    refine T.region ?_
    refine L.move rfl rfl ?_
    refine L.move rfl rfl ?_
    obtain ⟨⟨ak, an, ay, tx, re⟩, hxk⟩ := ex_get (l := xs) (k := i) (by omega)
    obtain ⟨hg1, hg2, hg3, -⟩ := hg _ (List.mem_of_getElem? hxk)
    refine L.idx (i := i) rfl Try.underlying29 sz32 rfl rfl qM (by first | rfl | omega | (simp; done)) qG (fun b40 o40 => ?_)
    refine L.loadA rfl ag32 rfl qN ?_
    refine L.alloc rfl ze32 (fun b9 => ?_)
    refine L.storeA ag32 rfl rfl qL qO qU qW ?_
    refine L.nil ?_
    refine T.clEq b9 [.int .i64 ak, .int .i64 an, .int .i64 ay, S tx, S re] qP rfl ?_
    refine T.thenN ?_
    refine T.seq ?_
    refine T.region ?_
    first | refine L.field0 rfl fo32_1 rfl ?_ | refine L.field rfl fo32_1 rfl ?_
    refine L.load rfl sc3 rfl qC ?_
    refine L.andM rfl rfl rfl (k := 3) (by decide) (by decide) ?_
    refine L.assign rfl rfl ?_
    refine L.nil ?_
    refine T.thenN ?_
    refine T.seq ?_
    refine T.region ?_
    refine L.move rfl rfl ?_
    first | refine L.field0 rfl fo32_2 rfl ?_ | refine L.field rfl fo32_2 rfl ?_
    refine L.load rfl sc3 rfl qC ?_
    refine L.andM rfl rfl rfl (k := 4) (by decide) (by decide) ?_
    refine L.addN rfl rfl rfl (by omega) ?_
    refine L.assign rfl rfl ?_
    refine L.nil ?_
    obtain ⟨nn, hnn, hn1, hn2⟩ : ∃ m : Int, m = an % (7 + 1) ∧ 0 ≤ m ∧ m ≤ 7 := ⟨_, rfl, by omega, by omega⟩
    rw [← hnn]
    obtain ⟨nw, hnw, hw1, hw2⟩ : ∃ m : Int, m = now + ay % (15 + 1) ∧ now ≤ m ∧ m ≤ now + 15 := ⟨_, rfl, by omega, by omega⟩
    rw [← hnw]
    have hll : l.length ≤ 1000 := by have := hI.len; omega
    refine T.bookOk qM (fun hok => ?_)
    have hmk : MOk (atM l nn) := by rw [hI.same]; exact hok nn
    refine T.thenN ?_
    refine T.seq ?_
    refine T.seq ?_
    refine T.region ?_
    first | refine L.field0 rfl fo32_0 rfl ?_ | refine L.field rfl fo32_0 rfl ?_
    refine L.load rfl sc3 rfl qC ?_
    refine L.nil ?_
    refine T.thenN ?_
    refine T.cutC (fun K' D' M' => ∃ (F2 : Int → Mind) (l2 : List (Int × Mind)) (la2 : Option Addr) (ll2 lc2 : Nat), (PInv F2 l2 (i + 1)) ∧ K' = [(6, .slice la2 ll2 lc2)] ∧ D' = [rsl 8 la2 ll2 lc2 ((l2).map rrow)] ∧ M' = [bookA b F2]) (M0 := [bookA b F]) (.cons (t := 0) rfl <| .cons (t := 1) rfl <| .cons (t := 5) rfl <| .cons (t := 7) rfl <| .cons (t := 8) rfl <| .cons (t := 10) rfl <| SubK.nil _) qS ?_ ?_
    · skip
      refine T.block ?_
      refine T.seq ?_
      refine T.region ?_
      refine L.eqI rfl rfl rfl ?_
      refine L.assign rfl rfl ?_
      refine L.nil ?_
      refine T.thenN ?_
      refine T.cond rfl (fun h52 => ?_) (fun h52 => ?_)
      · try simp only [decide_eq_true_eq, decide_eq_false_iff_not, Bool.not_eq_true', Bool.not_eq_false', Bool.and_eq_true, Bool.or_eq_true] at h52
        refine T.seq ?_
        refine T.region ?_
        refine L.move rfl rfl ?_
        refine L.move rfl rfl ?_
        refine L.call rfl (evs.cons rfl <| evs.cons rfl <| evs.nil) qD qS (good_spec ) ?_
        rintro _ _ _ ⟨rfl, rfl, rfl⟩
        refine L.norm qA qA ?_
        refine L.nil ?_
        refine T.thenN ?_
        refine T.region ?_
        refine L.move rfl rfl ?_
        refine L.move rfl rfl ?_
        refine L.call rfl (evs.cons rfl <| evs.cons rfl <| evs.nil) qD qS (rgood_spec hll hmk) ?_
        rintro _ _ _ ⟨sa, sl, sc, rfl, rfl, rfl⟩
        refine L.norm qA qA ?_
        refine L.assign rfl rfl ?_
        refine L.nil ?_
        refine T.blkN ?_
        refine T.thenN ?_
        exact T.toJoin ⟨_, _, _, _, _, (by first | (have := (show ak = 1 from h52); exact pinv_set (n := nn) (m := goodM (F nn)) (m' := goodM (atM l nn)) hI (by rw [hI.same])) | (have := (show ak = 2 from h60); exact pinv_set (n := nn) (m := silM (F nn) nw) (m' := silM (atM l nn) nw) hI (by rw [hI.same])) | (have := (show ak = 3 from h70); exact pinv_ban (n := nn) (p := (1, oidF 1 (re.take 30), tx.take 30)) hI) | exact pinv_up hI), rfl, rfl, rfl⟩ (.cons (t := 6) rfl <| SubK.nil _) (.cons (t := 0) rfl <| .cons (t := 1) rfl <| .cons (t := 5) rfl <| .cons (t := 7) rfl <| .cons (t := 8) rfl <| .cons (t := 10) rfl <| SubK.nil _) qD qD qF
      · try simp only [decide_eq_true_eq, decide_eq_false_iff_not, Bool.not_eq_true', Bool.not_eq_false', Bool.and_eq_true, Bool.or_eq_true] at h52
        refine T.seq ?_
        refine T.region ?_
        refine L.eqI rfl rfl rfl ?_
        refine L.assign rfl rfl ?_
        refine L.nil ?_
        refine T.thenN ?_
        refine T.cond rfl (fun h60 => ?_) (fun h60 => ?_)
        · try simp only [decide_eq_true_eq, decide_eq_false_iff_not, Bool.not_eq_true', Bool.not_eq_false', Bool.and_eq_true, Bool.or_eq_true] at h60
          refine T.seq ?_
          refine T.region ?_
          refine L.move rfl rfl ?_
          refine L.move rfl rfl ?_
          refine L.move rfl rfl ?_
          refine L.call rfl (evs.cons rfl <| evs.cons rfl <| evs.cons rfl <| evs.nil) qD qS (silent_spec (by omega) (by omega)) ?_
          rintro _ _ _ ⟨rfl, rfl, rfl⟩
          refine L.norm qA qA ?_
          refine L.nil ?_
          refine T.thenN ?_
          refine T.region ?_
          refine L.move rfl rfl ?_
          refine L.move rfl rfl ?_
          refine L.move rfl rfl ?_
          refine L.call rfl (evs.cons rfl <| evs.cons rfl <| evs.cons rfl <| evs.nil) qD qS (rsil_spec hll hmk (by omega) (by omega)) ?_
          rintro _ _ _ ⟨sa, sl, sc, rfl, rfl, rfl⟩
          refine L.norm qA qA ?_
          refine L.assign rfl rfl ?_
          refine L.nil ?_
          refine T.blkN ?_
          refine T.thenN ?_
          exact T.toJoin ⟨_, _, _, _, _, (by first | (have := (show ak = 1 from h52); exact pinv_set (n := nn) (m := goodM (F nn)) (m' := goodM (atM l nn)) hI (by rw [hI.same])) | (have := (show ak = 2 from h60); exact pinv_set (n := nn) (m := silM (F nn) nw) (m' := silM (atM l nn) nw) hI (by rw [hI.same])) | (have := (show ak = 3 from h70); exact pinv_ban (n := nn) (p := (1, oidF 1 (re.take 30), tx.take 30)) hI) | exact pinv_up hI), rfl, rfl, rfl⟩ (.cons (t := 6) rfl <| SubK.nil _) (.cons (t := 0) rfl <| .cons (t := 1) rfl <| .cons (t := 5) rfl <| .cons (t := 7) rfl <| .cons (t := 8) rfl <| .cons (t := 10) rfl <| SubK.nil _) qD qD qF
        · try simp only [decide_eq_true_eq, decide_eq_false_iff_not, Bool.not_eq_true', Bool.not_eq_false', Bool.and_eq_true, Bool.or_eq_true] at h60
          refine T.seq ?_
          refine T.region ?_
          refine L.eqI rfl rfl rfl ?_
          refine L.assign rfl rfl ?_
          refine L.nil ?_
          refine T.thenN ?_
          refine T.cond rfl (fun h70 => ?_) (fun h70 => ?_)
          · try simp only [decide_eq_true_eq, decide_eq_false_iff_not, Bool.not_eq_true', Bool.not_eq_false', Bool.and_eq_true, Bool.or_eq_true] at h70
            refine T.seq ?_
            refine T.region ?_
            refine L.loadA rfl ag32 rfl qN ?_
            refine L.call rfl (evs.cons rfl <| evs.nil) qD qS (proof_spec (tx := tx) (re := re)) ?_
            rintro _ _ _ ⟨rfl, rfl, rfl⟩
            refine L.norm qA qA ?_
            have ho32 := oidF_len 1 (re.take 30)
            have h34 : (pcells (1, oidF 1 (re.take 30), tx.take 30)).length = 34 := by simp [ho32]
            refine L.move rfl rfl ?_
            refine L.extract rfl rfl rfl ?_
            refine L.extract rfl rfl rfl ?_
            refine L.alloc rfl ze36 (fun b11 => ?_)
            refine L.alloc rfl ze38 (fun b12 => ?_)
            refine L.storeA ag36 rfl rfl qL qO qU qW ?_
            refine L.storeA ag38 rfl rfl qL qO qU qW ?_
            refine L.nil ?_
            refine T.thenN ?_
            refine T.seq ?_
            refine T.region ?_
            refine L.move rfl rfl ?_
            refine L.move rfl rfl ?_
            refine L.loadA rfl ag36 rfl qN ?_
            refine L.call rfl (evs.cons rfl <| evs.cons rfl <| evs.cons rfl <| evs.nil) qD qS (ban_spec (k := 1) (id := oidF 1 (re.take 30)) (tx := tx.take 30) ho32 (by simp; omega)) ?_
            rintro _ _ _ ⟨rfl, rfl, rfl⟩
            refine L.norm qA qA ?_
            refine L.assign rfl rfl ?_
            refine L.nil ?_
            refine T.thenN ?_
            refine T.seq ?_
            refine T.region ?_
            refine L.move rfl rfl ?_
            refine L.move rfl rfl ?_
            refine L.loadA rfl ag38 rfl qN ?_
            refine L.call rfl (evs.cons rfl <| evs.cons rfl <| evs.cons rfl <| evs.nil) qD qS (rban_spec hll (by simp; omega)) ?_
            rintro _ _ _ ⟨sa, sl, sc, rfl, rfl, rfl⟩
            refine L.norm qA qA ?_
            refine L.move rfl rfl ?_
            refine L.extract rfl rfl rfl ?_
            refine L.extract rfl rfl rfl ?_
            refine L.assign rfl rfl ?_
            refine L.assign rfl rfl ?_
            refine L.nil ?_
            refine T.thenN ?_
            refine T.seq ?_
            refine T.region ?_
            refine L.move rfl rfl ?_
            refine L.assign rfl rfl ?_
            refine L.nil ?_
            refine T.thenN ?_
            refine T.seq ?_
            refine T.regionQ (by kernel_rfl) (by kernel_rfl) ?_
            refine L.move rfl rfl ?_
            refine L.eqI rfl rfl rfl ?_
            refine L.move rfl rfl ?_
            refine L.neqB Try.underlying4 rfl rfl rfl ?_
            refine L.move rfl rfl ?_
            refine L.known (t := 93) rfl (show _ = Value.bool false from congrArg Value.bool (by by_cases ho : oidF 1 (tx.take 30) = oidF 1 (re.take 30) <;> simp [ho])) ?_
            refine L.guardT (dj := 93) rfl rfl rfl ?_
            refine L.move rfl rfl ?_
            refine L.guardT (dj := 93) rfl rfl rfl ?_
            refine L.notB rfl rfl ?_
            refine L.guardT (dj := 93) rfl rfl rfl ?_
            refine L.move rfl rfl ?_
            refine L.part (t := 96) rfl (fun h2 => ?_) (fun h2 => ?_)
            · try simp only [decide_eq_true_eq, decide_eq_false_iff_not, Bool.not_eq_true', Bool.not_eq_false', Bool.and_eq_true, Bool.or_eq_true] at h2
              have ho96 : oidF 1 (tx.take 30) = oidF 1 (re.take 30) := by simpa using h2
              refine L.guardT (dj := 96) rfl rfl rfl ?_
              refine L.move rfl rfl ?_
              refine L.guardT (dj := 96) rfl rfl rfl ?_
              refine L.neI rfl rfl rfl ?_
              refine L.guardT (dj := 93) rfl rfl rfl ?_
              refine L.pickT rfl rfl rfl ?_
              refine L.pickF rfl rfl rfl ?_
              refine L.move rfl rfl ?_
              refine L.known (t := 101) rfl (show _ = Value.bool false from congrArg Value.bool (by first | with_reducible rfl | (rw [if_pos ho96]; decide))) ?_
              refine L.guardT (dj := 101) rfl rfl rfl ?_
              refine L.loadA rfl ag36 rfl qN ?_
              refine L.guardT (dj := 101) rfl rfl rfl ?_
              refine L.callF rfl (evs.cons rfl <| evs.nil) qD qS (holds_spec (k := 1) (id := oidF 1 (re.take 30)) (tx := tx.take 30) ho32 (by simp; omega)) (by rintro u D1 M1 ⟨rfl, rfl, rfl⟩; exact ⟨rfl, _, qA, qF⟩) ?_
              refine L.guardT (dj := 101) rfl rfl rfl ?_
              refine L.loadA rfl ag38 rfl qN ?_
              refine L.guardT (dj := 101) rfl rfl rfl ?_
              refine L.callF rfl (evs.cons rfl <| evs.nil) qD qS (rholds_spec (by simp; omega)) (by rintro u D1 M1 ⟨rfl, rfl, rfl⟩; exact ⟨rfl, _, qA, qF⟩) ?_
              refine L.guardT (dj := 101) rfl rfl rfl ?_
              refine L.neqB Try.underlying4 rfl rfl rfl ?_
              refine L.pickF rfl rfl rfl ?_
              refine L.nilQ ?_
              refine T.thenN ?_
              refine T.condF rfl (by by_cases ho : oidF 1 (tx.take 30) = oidF 1 (re.take 30) <;> simp [ho]) ?_
              refine T.skip ?_
              refine T.blkN ?_
              refine T.thenN ?_
              exact T.toJoin ⟨_, _, _, _, _, (by first | (have := (show ak = 1 from h52); exact pinv_set (n := nn) (m := goodM (F nn)) (m' := goodM (atM l nn)) hI (by rw [hI.same])) | (have := (show ak = 2 from h60); exact pinv_set (n := nn) (m := silM (F nn) nw) (m' := silM (atM l nn) nw) hI (by rw [hI.same])) | (have := (show ak = 3 from h70); exact pinv_ban (n := nn) (p := (1, oidF 1 (re.take 30), tx.take 30)) hI) | exact pinv_up hI), rfl, rfl, rfl⟩ (.cons (t := 6) rfl <| SubK.nil _) (.cons (t := 0) rfl <| .cons (t := 1) rfl <| .cons (t := 5) rfl <| .cons (t := 7) rfl <| .cons (t := 8) rfl <| .cons (t := 10) rfl <| SubK.nil _) qD qD qF
            · try simp only [decide_eq_true_eq, decide_eq_false_iff_not, Bool.not_eq_true', Bool.not_eq_false', Bool.and_eq_true, Bool.or_eq_true] at h2
              refine L.guardF (dj := 96) (c := false) rfl rfl rfl rfl rfl (by decide) ?_
              refine L.guardF (dj := 96) (c := false) rfl rfl rfl rfl rfl (by decide) ?_
              refine L.guardT (dj := 93) rfl rfl rfl ?_
              refine L.pickF rfl rfl rfl ?_
              refine L.pickF rfl rfl rfl ?_
              refine L.move rfl rfl ?_
              refine L.guardT (dj := 101) rfl rfl rfl ?_
              refine L.loadA rfl ag36 rfl qN ?_
              refine L.guardT (dj := 101) rfl rfl rfl ?_
              refine L.callF rfl (evs.cons rfl <| evs.nil) qD qS (holds_spec (k := 1) (id := oidF 1 (re.take 30)) (tx := tx.take 30) ho32 (by simp; omega)) (by rintro u D1 M1 ⟨rfl, rfl, rfl⟩; exact ⟨rfl, _, qA, qF⟩) ?_
              refine L.guardT (dj := 101) rfl rfl rfl ?_
              refine L.loadA rfl ag38 rfl qN ?_
              refine L.guardT (dj := 101) rfl rfl rfl ?_
              refine L.callF rfl (evs.cons rfl <| evs.nil) qD qS (rholds_spec (by simp; omega)) (by rintro u D1 M1 ⟨rfl, rfl, rfl⟩; exact ⟨rfl, _, qA, qF⟩) ?_
              refine L.guardT (dj := 101) rfl rfl rfl ?_
              refine L.neqB Try.underlying4 rfl rfl rfl ?_
              refine L.pickF rfl rfl rfl ?_
              refine L.nilQ ?_
              refine T.thenN ?_
              refine T.condF rfl (by by_cases ho : oidF 1 (tx.take 30) = oidF 1 (re.take 30) <;> simp [ho]) ?_
              refine T.skip ?_
              refine T.blkN ?_
              refine T.thenN ?_
              exact T.toJoin ⟨_, _, _, _, _, (by first | (have := (show ak = 1 from h52); exact pinv_set (n := nn) (m := goodM (F nn)) (m' := goodM (atM l nn)) hI (by rw [hI.same])) | (have := (show ak = 2 from h60); exact pinv_set (n := nn) (m := silM (F nn) nw) (m' := silM (atM l nn) nw) hI (by rw [hI.same])) | (have := (show ak = 3 from h70); exact pinv_ban (n := nn) (p := (1, oidF 1 (re.take 30), tx.take 30)) hI) | exact pinv_up hI), rfl, rfl, rfl⟩ (.cons (t := 6) rfl <| SubK.nil _) (.cons (t := 0) rfl <| .cons (t := 1) rfl <| .cons (t := 5) rfl <| .cons (t := 7) rfl <| .cons (t := 8) rfl <| .cons (t := 10) rfl <| SubK.nil _) qD qD qF
          · try simp only [decide_eq_true_eq, decide_eq_false_iff_not, Bool.not_eq_true', Bool.not_eq_false', Bool.and_eq_true, Bool.or_eq_true] at h70
            refine T.skip ?_
            refine T.blkN ?_
            refine T.thenN ?_
            exact T.toJoin ⟨_, _, _, _, _, (by first | (have := (show ak = 1 from h52); exact pinv_set (n := nn) (m := goodM (F nn)) (m' := goodM (atM l nn)) hI (by rw [hI.same])) | (have := (show ak = 2 from h60); exact pinv_set (n := nn) (m := silM (F nn) nw) (m' := silM (atM l nn) nw) hI (by rw [hI.same])) | (have := (show ak = 3 from h70); exact pinv_ban (n := nn) (p := (1, oidF 1 (re.take 30), tx.take 30)) hI) | exact pinv_up hI), rfl, rfl, rfl⟩ (.cons (t := 6) rfl <| SubK.nil _) (.cons (t := 0) rfl <| .cons (t := 1) rfl <| .cons (t := 5) rfl <| .cons (t := 7) rfl <| .cons (t := 8) rfl <| .cons (t := 10) rfl <| SubK.nil _) qD qD qF
    rintro _ _ _ ⟨F2, l2, la2, ll2, lc2, hI2, rfl, rfl, rfl⟩
    refine T.norm3 qA qA qA ?_
    have hll2 : l2.length ≤ 1000 := by have := hI2.len; omega
    refine T.bookOk qM (fun hok2 => ?_)
    refine T.thenN ?_
    refine T.seq ?_
    refine T.region ?_
    refine L.move rfl rfl ?_
    refine L.move rfl rfl ?_
    refine L.callF rfl (evs.cons rfl <| evs.cons rfl <| evs.nil) qD qS (rat_spec hll2) (by rintro u D1 M1 ⟨rfl, rfl, rfl⟩; exact ⟨rfl, _, qA, qF⟩) ?_
    refine L.alloc rfl ze54 (fun b16 => ?_)
    refine L.storeA ag54 rfl rfl qL qO qU qW ?_
    refine L.nil ?_
    refine T.clEq b16 [.int .i64 nn, .int .i64 (F2 nn).1, .int .i64 (F2 nn).2.1, .int .i64 (F2 nn).2.2.1, .bool (F2 nn).2.2.2.isSome, .int .i64 ((F2 nn).2.2.2.getD zR).1, S ((F2 nn).2.2.2.getD zR).2.1, S ((F2 nn).2.2.2.getD zR).2.2] qP (congrArg (fun m => rrow (nn, m)) (hI2.same nn)) ?_
    refine T.thenN ?_
    refine T.seq ?_
    refine T.region ?_
    refine L.move rfl rfl ?_
    refine L.move rfl rfl ?_
    refine L.callF rfl (evs.cons rfl <| evs.cons rfl <| evs.nil) qD qS (banned_spec ) (by rintro u D1 M1 ⟨rfl, rfl, rfl⟩; exact ⟨rfl, _, qA, qF⟩) ?_
    have h34 := p34 (hok2 nn)
    have hid32 := p32 (hok2 nn)
    refine L.move rfl rfl ?_
    refine L.extract rfl rfl rfl ?_
    refine L.extract rfl rfl rfl ?_
    refine L.alloc rfl ze36 (fun b17 => ?_)
    refine L.storeA ag36 rfl rfl qL qO qU qW ?_
    refine L.assign rfl rfl ?_
    refine L.nil ?_
    refine T.thenN ?_
    refine T.seq ?_
    refine T.regionQ (by kernel_rfl) (by kernel_rfl) ?_
    refine L.move rfl rfl ?_
    refine L.move rfl rfl ?_
    refine L.callF rfl (evs.cons rfl <| evs.cons rfl <| evs.nil) qD qS (score_spec ) (by rintro u D1 M1 ⟨rfl, rfl, rfl⟩; exact ⟨rfl, _, qA, qF⟩) ?_
    first | refine L.field0 rfl fo54_1 rfl ?_ | refine L.field rfl fo54_1 rfl ?_
    refine L.load rfl sc3 rfl qC ?_
    refine L.neI rfl rfl rfl ?_
    refine L.move rfl rfl ?_
    refine L.known (t := 123) rfl (show _ = Value.bool false from congrArg Value.bool (decide_eq_false (by simp))) ?_
    refine L.guardT (dj := 123) rfl rfl rfl ?_
    refine L.move rfl rfl ?_
    refine L.guardT (dj := 123) rfl rfl rfl ?_
    refine L.move rfl rfl ?_
    refine L.guardT (dj := 123) rfl rfl rfl ?_
    refine L.callF rfl (evs.cons rfl <| evs.cons rfl <| evs.nil) qD qS (until_spec ) (by rintro u D1 M1 ⟨rfl, rfl, rfl⟩; exact ⟨rfl, _, qA, qF⟩) ?_
    refine L.guardT (dj := 123) rfl rfl rfl ?_
    first | refine L.field0 rfl fo54_3 rfl ?_ | refine L.field rfl fo54_3 rfl ?_
    refine L.guardT (dj := 123) rfl rfl rfl ?_
    refine L.load rfl sc3 rfl qC ?_
    refine L.guardT (dj := 123) rfl rfl rfl ?_
    refine L.neI rfl rfl rfl ?_
    refine L.pickF rfl rfl rfl ?_
    refine L.move rfl rfl ?_
    refine L.known (t := 131) rfl (show _ = Value.bool false from congrArg Value.bool (decide_eq_false (by simp))) ?_
    refine L.guardT (dj := 131) rfl rfl rfl ?_
    refine L.move rfl rfl ?_
    refine L.guardT (dj := 131) rfl rfl rfl ?_
    first | refine L.field0 rfl fo54_4 rfl ?_ | refine L.field rfl fo54_4 rfl ?_
    refine L.guardT (dj := 131) rfl rfl rfl ?_
    refine L.load rfl sc4 rfl qC ?_
    refine L.guardT (dj := 131) rfl rfl rfl ?_
    refine L.neqB Try.underlying4 rfl rfl rfl ?_
    refine L.pickF rfl rfl rfl ?_
    refine L.move rfl rfl ?_
    refine L.known (t := 137) rfl (show _ = Value.bool false from congrArg Value.bool (by simp)) ?_
    refine L.guardT (dj := 137) rfl rfl rfl ?_
    refine L.move rfl rfl ?_
    refine L.guardT (dj := 137) rfl rfl rfl ?_
    refine L.move rfl rfl ?_
    refine L.part (t := 139) rfl (fun h3 => ?_) (fun h3 => ?_)
    · try simp only [decide_eq_true_eq, decide_eq_false_iff_not, Bool.not_eq_true', Bool.not_eq_false', Bool.and_eq_true, Bool.or_eq_true] at h3
      obtain ⟨qq, hq⟩ : ∃ q, (F2 nn).2.2.2 = some q := Option.isSome_iff_exists.1 h3
      have htt : (!decide (((F2 nn).2.2.2.getD zP).2.2 = ((F2 nn).2.2.2.getD zR).2.2)) = false := by rw [hq]; simp
      refine L.guardT (dj := 139) rfl rfl rfl ?_
      first | refine L.field0 rfl fo36_2 rfl ?_ | refine L.field rfl fo36_2 rfl ?_
      refine L.guardT (dj := 139) rfl rfl rfl ?_
      refine L.load rfl sc9 rfl qC ?_
      refine L.guardT (dj := 139) rfl rfl rfl ?_
      first | refine L.field0 rfl fo54_5 rfl ?_ | refine L.field rfl fo54_5 rfl ?_
      refine L.guardT (dj := 139) rfl rfl rfl ?_
      first | refine L.field0 rfl fo38_2 rfl ?_ | refine L.field rfl fo38_2 rfl ?_
      refine L.guardT (dj := 139) rfl rfl rfl ?_
      refine L.load rfl sc9 rfl qC ?_
      refine L.guardT (dj := 139) rfl rfl rfl ?_
      refine L.neS rfl rfl rfl ?_
      refine L.guardT (dj := 137) rfl rfl rfl ?_
      refine L.pickT rfl rfl rfl ?_
      refine L.pickF rfl rfl rfl ?_
      refine L.move rfl rfl ?_
      refine L.known (t := 148) rfl (show _ = Value.bool false from congrArg Value.bool (by first | with_reducible rfl | exact htt)) ?_
      refine L.guardT (dj := 148) rfl rfl rfl ?_
      refine L.move rfl rfl ?_
      refine L.guardT (dj := 148) rfl rfl rfl ?_
      refine L.move rfl rfl ?_
      refine L.guardT (dj := 148) rfl rfl rfl ?_
      refine L.move rfl rfl ?_
      refine L.guardT (dj := 148) rfl rfl rfl ?_
      refine L.callF rfl (evs.cons rfl <| evs.cons rfl <| evs.cons rfl <| evs.nil) qD qS (may_spec ) (by rintro u D1 M1 ⟨rfl, rfl, rfl⟩; exact ⟨rfl, _, qA, qF⟩) ?_
      refine L.guardT (dj := 148) rfl rfl rfl ?_
      refine L.move rfl rfl ?_
      refine L.guardT (dj := 148) rfl rfl rfl ?_
      refine L.move rfl rfl ?_
      refine L.guardT (dj := 148) rfl rfl rfl ?_
      refine L.move rfl rfl ?_
      refine L.guardT (dj := 148) rfl rfl rfl ?_
      refine L.callF rfl (evs.cons rfl <| evs.cons rfl <| evs.cons rfl <| evs.nil) qD qS (rmay_spec hll2) (by rintro u D1 M1 ⟨rfl, rfl, rfl⟩; exact ⟨rfl, _, qA, qF⟩) ?_
      rw [show atM l2 = F2 from funext hI2.same]
      refine L.guardT (dj := 148) rfl rfl rfl ?_
      refine L.neqB Try.underlying4 rfl rfl rfl ?_
      refine L.pickF rfl rfl rfl ?_
      refine L.nilQ ?_
      refine T.thenN ?_
      refine T.condF rfl (by simp) ?_
      refine T.skip ?_
      refine T.blkN ?_
      refine T.thenN ?_
      refine T.region ?_
      refine L.move rfl rfl ?_
      refine L.addN rfl rfl rfl (by omega) ?_
      refine L.assign rfl rfl ?_
      refine L.nil ?_
      refine T.thenN ?_
      exact T.back ⟨i + 1, nw, F2, l2, _, _, _, ⟨by omega, hI2⟩, rfl, rfl, rfl, rfl⟩ qI (.cons (t := 8) rfl <| .cons (t := 7) rfl <| .cons (t := 6) rfl <| SubK.nil _) (.cons (t := 0) rfl <| .cons (t := 1) rfl <| .cons (t := 5) rfl <| SubK.nil _) qD qD qF
    · try simp only [decide_eq_true_eq, decide_eq_false_iff_not, Bool.not_eq_true', Bool.not_eq_false', Bool.and_eq_true, Bool.or_eq_true] at h3
      refine L.guardF (dj := 139) (c := false) rfl rfl rfl rfl rfl (by decide) ?_
      refine L.guardF (dj := 139) (c := false) rfl rfl rfl rfl rfl (by decide) ?_
      refine L.guardF (dj := 139) (c := false) rfl rfl rfl rfl rfl (by decide) ?_
      refine L.guardF (dj := 139) (c := false) rfl rfl rfl rfl rfl (by decide) ?_
      refine L.guardF (dj := 139) (c := false) rfl rfl rfl rfl rfl (by decide) ?_
      refine L.guardF (dj := 139) (c := false) rfl rfl rfl rfl rfl (by decide) ?_
      refine L.guardT (dj := 137) rfl rfl rfl ?_
      refine L.pickF rfl rfl rfl ?_
      refine L.pickF rfl rfl rfl ?_
      refine L.move rfl rfl ?_
      refine L.guardT (dj := 148) rfl rfl rfl ?_
      refine L.move rfl rfl ?_
      refine L.guardT (dj := 148) rfl rfl rfl ?_
      refine L.move rfl rfl ?_
      refine L.guardT (dj := 148) rfl rfl rfl ?_
      refine L.move rfl rfl ?_
      refine L.guardT (dj := 148) rfl rfl rfl ?_
      refine L.callF rfl (evs.cons rfl <| evs.cons rfl <| evs.cons rfl <| evs.nil) qD qS (may_spec ) (by rintro u D1 M1 ⟨rfl, rfl, rfl⟩; exact ⟨rfl, _, qA, qF⟩) ?_
      refine L.guardT (dj := 148) rfl rfl rfl ?_
      refine L.move rfl rfl ?_
      refine L.guardT (dj := 148) rfl rfl rfl ?_
      refine L.move rfl rfl ?_
      refine L.guardT (dj := 148) rfl rfl rfl ?_
      refine L.move rfl rfl ?_
      refine L.guardT (dj := 148) rfl rfl rfl ?_
      refine L.callF rfl (evs.cons rfl <| evs.cons rfl <| evs.cons rfl <| evs.nil) qD qS (rmay_spec hll2) (by rintro u D1 M1 ⟨rfl, rfl, rfl⟩; exact ⟨rfl, _, qA, qF⟩) ?_
      rw [show atM l2 = F2 from funext hI2.same]
      refine L.guardT (dj := 148) rfl rfl rfl ?_
      refine L.neqB Try.underlying4 rfl rfl rfl ?_
      refine L.pickF rfl rfl rfl ?_
      refine L.nilQ ?_
      refine T.thenN ?_
      refine T.condF rfl (by simp) ?_
      refine T.skip ?_
      refine T.blkN ?_
      refine T.thenN ?_
      refine T.region ?_
      refine L.move rfl rfl ?_
      refine L.addN rfl rfl rfl (by omega) ?_
      refine L.assign rfl rfl ?_
      refine L.nil ?_
      refine T.thenN ?_
      exact T.back ⟨i + 1, nw, F2, l2, _, _, _, ⟨by omega, hI2⟩, rfl, rfl, rfl, rfl⟩ qI (.cons (t := 8) rfl <| .cons (t := 7) rfl <| .cons (t := 6) rfl <| SubK.nil _) (.cons (t := 0) rfl <| .cons (t := 1) rfl <| .cons (t := 5) rfl <| SubK.nil _) qD qD qF
  · try simp only [decide_eq_true_eq, decide_eq_false_iff_not, Bool.not_eq_true', Bool.not_eq_false', Bool.and_eq_true, Bool.or_eq_true] at h35
    have hwf : ¬ (i < len ∧ i < 60) := fun e => by have := hw.2 e; rw [h35] at this; cases this
    refine T.exit ?_
    refine T.thenX ?_
    refine T.thenX ?_
    refine T.blkX ?_
    refine T.thenN ?_
    refine T.seq ?_
    refine T.region ?_
    refine L.buildSlice rfl bs46 (by decide) (BP.doneE (out := []) rfl) (fun b159 => ?_)
    refine L.toOwn (len := 0) qP (rows := ([] : List Int).map e3) (sz := 1) (by rfl) rfl (by simp) ?_
    refine L.assign rfl rfl ?_
    refine L.nil ?_
    refine T.thenN ?_
    refine T.seq ?_
    refine T.seq ?_
    refine T.region ?_
    refine L.assign rfl rfl ?_
    refine L.nil ?_
    refine T.thenN ?_
    refine T.block ?_
    refine T.loop (fun K' D' M' μ => ∃ (j : Nat) (fw : List Int) (fa : Option Addr) (fl fc : Nat), ((j ≤ la ∧ j ≤ 12) ∧ fl = fw.length ∧ fl = j) ∧ K' = [(20, .int .i64 j), (19, .slice fa fl fc)] ∧ D' = [] ∧ M' = [own 1 3 fa fl fc ((fw).map e3)] ∧ μ = 12 - j) (.cons (t := 1) rfl <| .cons (t := 5) rfl <| .cons (t := 6) rfl <| .cons (t := 7) rfl <| SubK.nil _) (⟨0, [], _, 0, _, ⟨by omega, rfl, rfl⟩, rfl, rfl, rfl, rfl⟩) (.cons (t := 20) rfl <| .cons (t := 19) rfl <| SubK.nil _) qD qS ?_
    rintro K1 D1 M1 m1 ⟨j, fw, fa, fl, fc, ⟨⟨hj1, hj2⟩, hf1, hf2⟩, rfl, rfl, rfl, rfl⟩
    refine T.norm3 qA qA qA ?_
    refine T.seq ?_
    refine T.seq ?_
    refine T.cutC (fun K' D' M' => ∃ (w : Bool), (w = true ↔ (j < la ∧ j < 12)) ∧ K' = [(167, .bool w)] ∧ D' = [] ∧ M' = []) (M0 := []) (.cons (t := 1) rfl <| .cons (t := 5) rfl <| .cons (t := 6) rfl <| .cons (t := 7) rfl <| .cons (t := 19) rfl <| .cons (t := 20) rfl <| SubK.nil _) qS ?_ ?_
    · skip
      refine T.region ?_
      refine L.move rfl rfl ?_
      refine L.move rfl rfl ?_
      refine L.lenSl rfl Try.underlying46 rfl ?_
      refine L.ltI rfl rfl rfl ?_
      refine L.move rfl rfl ?_
      refine L.part (t := 164) rfl (fun h4 => ?_) (fun h4 => ?_)
      · try simp only [decide_eq_true_eq, decide_eq_false_iff_not, Bool.not_eq_true', Bool.not_eq_false', Bool.and_eq_true, Bool.or_eq_true] at h4
        refine L.guardT (dj := 164) rfl rfl rfl ?_
        refine L.move rfl rfl ?_
        refine L.guardT (dj := 164) rfl rfl rfl ?_
        refine L.ltI rfl rfl rfl ?_
        refine L.pickT rfl rfl rfl ?_
        refine L.nil ?_
        refine T.thenN ?_
        exact T.toJoin ⟨_, (by simp; omega), rfl, rfl, rfl⟩ (.cons (t := 167) rfl <| SubK.nil _) (.cons (t := 1) rfl <| .cons (t := 5) rfl <| .cons (t := 6) rfl <| .cons (t := 7) rfl <| .cons (t := 19) rfl <| .cons (t := 20) rfl <| SubK.nil _) qD qD qF
      · try simp only [decide_eq_true_eq, decide_eq_false_iff_not, Bool.not_eq_true', Bool.not_eq_false', Bool.and_eq_true, Bool.or_eq_true] at h4
        refine L.guardF (dj := 164) (c := false) rfl rfl rfl rfl rfl (by decide) ?_
        refine L.guardF (dj := 164) (c := false) rfl rfl rfl rfl rfl (by decide) ?_
        refine L.pickF rfl rfl rfl ?_
        refine L.nil ?_
        refine T.thenN ?_
        exact T.toJoin ⟨_, (by simp; omega), rfl, rfl, rfl⟩ (.cons (t := 167) rfl <| SubK.nil _) (.cons (t := 1) rfl <| .cons (t := 5) rfl <| .cons (t := 6) rfl <| .cons (t := 7) rfl <| .cons (t := 19) rfl <| .cons (t := 20) rfl <| SubK.nil _) qD qD qF
    rintro _ _ _ ⟨w, hw, rfl, rfl, rfl⟩
    refine T.norm3 qA qA qA ?_
    refine T.thenN ?_
    refine T.cond rfl (fun h167 => ?_) (fun h167 => ?_)
    · try simp only [decide_eq_true_eq, decide_eq_false_iff_not, Bool.not_eq_true', Bool.not_eq_false', Bool.and_eq_true, Bool.or_eq_true] at h167
      have hwt2 := hw.1 h167
      refine T.skip ?_
      refine T.thenN ?_
      refine T.seq ?_
      refine T.block ?_
      refine T.region ?_
      refine L.move rfl rfl ?_
      refine L.move rfl rfl ?_
      refine L.move rfl rfl ?_
      have hgj : al[j]? = some (gd al j) := gd_get (by omega)
      refine L.idx (i := j) rfl Try.underlying46 sz3 rfl rfl qM (by first | rfl | omega | (simp; done)) qG (fun b173 o173 => ?_)
      refine L.load rfl sc3 rfl qC ?_
      refine L.andM rfl rfl rfl (k := 4) (by decide) (by decide) ?_
      refine L.buildSlice rfl bs46 (by decide) (BP.one rfl rfl rfl <| BP.doneE (out := []) rfl) (fun b176 => ?_)
      refine L.append1 rfl Try.underlying46 el3 rfl rfl qP qM rfl qO1 qI qI (fun a177 c177 => ?_)
      refine L.assign rfl rfl ?_
      refine L.nil ?_
      refine T.blkN ?_
      refine T.thenN ?_
      refine T.region ?_
      refine L.move rfl rfl ?_
      refine L.addN rfl rfl rfl (by omega) ?_
      refine L.assign rfl rfl ?_
      refine L.nil ?_
      refine T.thenN ?_
      refine T.ownEq a177 ((fw ++ [gd al j % (15 + 1)]).map e3) qP (by simp) ?_
      exact T.back ⟨j + 1, fw ++ [gd al j % (15 + 1)], _, fl + 1, _, ⟨by omega, by rw [List.length_append, ← hf1]; rfl, by omega⟩, rfl, rfl, rfl, rfl⟩ qI (.cons (t := 20) rfl <| .cons (t := 19) rfl <| SubK.nil _) (.cons (t := 1) rfl <| .cons (t := 5) rfl <| .cons (t := 6) rfl <| .cons (t := 7) rfl <| SubK.nil _) qD qD qF
    · try simp only [decide_eq_true_eq, decide_eq_false_iff_not, Bool.not_eq_true', Bool.not_eq_false', Bool.and_eq_true, Bool.or_eq_true] at h167
      refine T.exit ?_
      refine T.thenX ?_
      refine T.thenX ?_
      refine T.blkX ?_
      refine T.thenN ?_
      refine T.seq ?_
      have hll : l.length ≤ 1000 := by have := hI.len; omega
      obtain rfl : atM l = F := funext hI.same
      refine T.ownRsl qP ?_
      refine T.region ?_
      refine L.move rfl rfl ?_
      refine L.move rfl rfl ?_
      refine L.move rfl rfl ?_
      refine L.call rfl (evs.cons rfl <| evs.cons rfl <| evs.cons rfl <| evs.nil) qD qS (bsort_spec (xs := fw) (by omega)) ?_
      rintro _ _ _ ⟨ga, gc, ys, rfl, hperm, hsort, rfl, rfl⟩
      refine L.norm qA qA ?_
      have hyl12 : ys.length ≤ fw.length := by rw [hperm.length_eq]; exact List.length_filter_le _ _
      refine L.assign rfl rfl ?_
      refine L.nil ?_
      refine T.thenN ?_
      refine T.seq ?_
      refine T.region ?_
      refine L.move rfl rfl ?_
      refine L.move rfl rfl ?_
      refine L.move rfl rfl ?_
      refine L.call rfl (evs.cons rfl <| evs.cons rfl <| evs.cons rfl <| evs.nil) qD qS (rsort_spec (al := fw) (l := l) hll (by omega)) ?_
      rintro _ _ _ ⟨ra, rl, rc, rfl, hrl, rfl, rfl⟩
      refine L.norm qA qA ?_
      have hys := sort_same (may' := fun x => mayB (atM l) x now) hperm hsort (fun _ => rfl)
      rw [← hys] at hrl ⊢
      subst hrl
      refine L.assign rfl rfl ?_
      refine L.nil ?_
      refine T.thenN ?_
      refine T.seq ?_
      refine T.seq ?_
      refine T.region ?_
      refine L.move rfl rfl ?_
      refine L.lenSl rfl Try.underlying46 rfl ?_
      refine L.move rfl rfl ?_
      refine L.lenSl rfl Try.underlying46 rfl ?_
      refine L.neI rfl rfl rfl ?_
      refine L.nil ?_
      refine T.thenN ?_
      refine T.condF rfl (decide_eq_false (by simp)) ?_
      refine T.skip ?_
      refine T.thenN ?_
      refine T.seq ?_
      refine T.seq ?_
      refine T.region ?_
      refine L.move rfl rfl ?_
      refine L.lenSl rfl Try.underlying46 rfl ?_
      refine L.move rfl rfl ?_
      refine L.nil ?_
      refine T.thenN ?_
      refine T.block ?_
      refine T.loop (fun K' D' M' μ => ∃ (q : Nat), (q ≤ ys.length) ∧ K' = [(193, .int .i64 q)] ∧ D' = [] ∧ M' = [] ∧ μ = ys.length - q) (.cons (t := 21) rfl <| .cons (t := 22) rfl <| .cons (t := 192) rfl <| SubK.nil _) (⟨0, Nat.zero_le _, rfl, rfl, rfl, rfl⟩) (.cons (t := 193) rfl <| SubK.nil _) qD qS ?_
      rintro K1 D1 M1 m1 ⟨q, hq, rfl, rfl, rfl, rfl⟩
      refine T.norm3 qA qA qA ?_
      refine T.seq ?_
      refine T.region ?_
      refine L.ltI rfl rfl rfl ?_
      refine L.nil ?_
      refine T.thenN ?_
      refine T.seq ?_
      refine T.cond rfl (fun h194 => ?_) (fun h194 => ?_)
      · try simp only [decide_eq_true_eq, decide_eq_false_iff_not, Bool.not_eq_true', Bool.not_eq_false', Bool.and_eq_true, Bool.or_eq_true] at h194
        refine T.ownNe (a := ga) qM (by omega) (fun gb go ha => ?_)
        subst ha
        refine T.ownNe (a := ra) qM (by omega) (fun rb ro ha => ?_)
        subst ha
        have hgq : ys[q]? = some (gd ys q) := gd_get (by omega)
        refine T.skip ?_
        refine T.thenN ?_
        refine T.seq ?_
        refine T.block ?_
        refine T.seq ?_
        refine T.region ?_
        refine L.move rfl rfl ?_
        refine L.assign rfl rfl ?_
        refine L.nil ?_
        refine T.thenN ?_
        refine T.seq ?_
        refine T.regionQ (by kernel_rfl) (by kernel_rfl) ?_
        refine L.move rfl rfl ?_
        refine L.move rfl rfl ?_
        refine L.idxG (i := q) rfl Try.underlying46 sz3 rfl rfl (by first | rfl | omega | (simp; done)) qI ?_
        refine L.load rfl sc3 rfl qC ?_
        refine L.move rfl rfl ?_
        refine L.move rfl rfl ?_
        refine L.idxG (i := q) rfl Try.underlying46 sz3 rfl rfl (by first | rfl | omega | (simp; done)) qI ?_
        refine L.load rfl sc3 rfl qC ?_
        refine L.neI rfl rfl rfl ?_
        refine L.nilQ ?_
        refine T.thenN ?_
        refine T.condF rfl (decide_eq_false (by simp)) ?_
        refine T.skip ?_
        refine T.blkN ?_
        refine T.thenN ?_
        refine T.region ?_
        refine L.addN rfl rfl rfl (by omega) ?_
        refine L.move rfl rfl ?_
        refine L.nil ?_
        refine T.thenN ?_
        exact T.back ⟨q + 1, qT, rfl, rfl, rfl, rfl⟩ qI (.cons (t := 193) rfl <| SubK.nil _) (.cons (t := 21) rfl <| .cons (t := 22) rfl <| .cons (t := 192) rfl <| SubK.nil _) qD qD qF
      · try simp only [decide_eq_true_eq, decide_eq_false_iff_not, Bool.not_eq_true', Bool.not_eq_false', Bool.and_eq_true, Bool.or_eq_true] at h194
        refine T.exit ?_
        refine T.thenX ?_
        refine T.thenX ?_
        refine T.blkX ?_
        refine T.thenN ?_
        refine T.seq ?_
        refine T.region ?_
        refine L.assign rfl rfl ?_
        refine L.nil ?_
        refine T.thenN ?_
        refine T.ret ?_
        exact T.ret1 rfl rfl ⟨rfl, rfl, rfl⟩ qD qF
end Cv
