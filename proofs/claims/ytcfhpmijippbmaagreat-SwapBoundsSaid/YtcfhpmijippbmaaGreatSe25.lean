/-
  The walks: any act.
-/
import Derived.Test.YtcfhpmijippbmaaGreatSd25
import Derived.Test.YtcfhpmijippbmaaGreatProg
import Derived.KernelRfl
set_option linter.unusedVariables false
set_option linter.unusedSimpArgs false
set_option linter.unusedSectionVars false
set_option maxRecDepth 10000
namespace Cv
open Go Go.Proofs
/-! ### any act: plain laws -/
theorem tick_inv {s : SS} {i : Nat} {now : Int} (hI : SInv s i) (h : s.now ≤ now ∧ now ≤ s.now + 15) (hi : i ≤ 60) : SInv ⟨s.ol.filter (fun x => !lateB now x), delS (lateB now) (silL now) s.ml s.ol, s.lk.filter (fun e => decide (now < e.2)), s.ll.filter (fun e => decide (now < e.2)), s.sq, now⟩ (i + 1) where
  o := hI.o.sub List.filter_sublist
  lm := by have h1 := @delS_len now (lateB now) s.ol s.ml; have := hI.lm; have := hI.o.lo; show (delS (lateB now) (silL now) s.ml s.ol).length ≤ _; omega
  lc := by have h1 := List.length_filter_le (fun e : LK × Int => decide (now < e.2)) s.ll; have := hI.lc; show (s.ll.filter _).length ≤ _; omega
  ok := delS_ok (by have := hI.now0; omega) (by have := hI.now0; omega) hI.ok
  same := same_filt hI.ndl hI.ndk hI.same
  ndl := (List.Sublist.map _ List.filter_sublist).nodup hI.ndl
  ndk := (List.Sublist.map _ List.filter_sublist).nodup hI.ndk
  sq0 := by have := hI.sq0; show 0 ≤ s.sq ∧ s.sq ≤ _; omega
  now0 := by have := hI.now0; show 0 ≤ now ∧ now ≤ _; omega
theorem tick_j {s : SS} {z : AR25} {now : Int} : JOk s z (delS (lateB now) (silL now) s.ml s.ol) := fun _ h => sil_5 (xs := s.ol.filter (lateB now)) h
theorem forget_inv {s : SS} {i : Nat} {ws : List Wnt} (hI : SInv s i) : SInv ⟨s.ol.filter (keepB ws), s.ml, s.lk, s.ll, s.sq, s.now⟩ (i + 1) where
  o := hI.o.sub List.filter_sublist
  lm := by have := hI.lm; show s.ml.length ≤ _; omega
  lc := by have := hI.lc; show s.ll.length ≤ _; omega
  ok := hI.ok
  same := hI.same
  ndl := hI.ndl
  ndk := hI.ndk
  sq0 := by have := hI.sq0; show 0 ≤ s.sq ∧ s.sq ≤ _; omega
  now0 := by have := hI.now0; show 0 ≤ s.now ∧ s.now ≤ _; omega
theorem one_iC {y : ID32} : ∀ u ∈ iC y, u.oneCell' = true := fun u hu => by
  obtain ⟨b, _, rfl⟩ := List.mem_map.1 hu; rfl
theorem iC_len (y : ID32) : (iC y).length = 32 := by rw [List.length_map]; exact y.2
def idsF (ws : List Wnt) : List ID32 := ws.map fun w => w.2.1
theorem ids_s {ws : List Wnt} {k : Nat} {w : Wnt} (h : ws[k]? = some w) : (idsF (ws.take (k + 1))).map iC = (idsF (ws.take k)).map iC ++ [iC w.2.1] := by
  unfold idsF; rw [List.take_add_one, h]; simp
theorem sinceB {s : SS} {i : Nat} (hI : SInv s i) : ∀ x ∈ s.ol, -1000000 ≤ x.2.2.2 ∧ x.2.2.2 ≤ 1000000000 := fun x hx => by have := hI.o.since x hx; omega
@[reducible] def e9 : List UInt8 → List Value | a => [S a]
def g9 : List UInt8 → Prop | a => a.length ≤ maxLen
theorem el9z {H : Type} {enc : TypeId × Value → H} {W : World} {base : Nat} {sp : Nat → Bool} {held : Bool} {n : Nat} {cs : List Value} {y : DataW H × List MemPlace} (h : DataW.trod enc Tryz.prog W base sp held n 9 cs = some y) : ∃ z, cs = e9 z ∧ g9 z := by
  obtain ⟨n, rfl, -, hw⟩ := DataW.trod_string Tryz.underlying9 h
  exact ⟨n.data.toList, rfl, hw⟩
theorem el50 : El Tryz.prog 50 32 32 := ⟨_, _, rfl, rfl, by kernel_rfl, by kernel_rfl, by kernel_rfl⟩
theorem bs92 : Bs Tryz.prog 92 50 32 (Value.int .u8 0 :: Value.int .u8 0 :: Value.int .u8 0 :: Value.int .u8 0 :: Value.int .u8 0 :: Value.int .u8 0 :: Value.int .u8 0 :: Value.int .u8 0 :: Value.int .u8 0 :: Value.int .u8 0 :: Value.int .u8 0 :: Value.int .u8 0 :: Value.int .u8 0 :: Value.int .u8 0 :: Value.int .u8 0 :: Value.int .u8 0 :: Value.int .u8 0 :: Value.int .u8 0 :: Value.int .u8 0 :: Value.int .u8 0 :: Value.int .u8 0 :: Value.int .u8 0 :: Value.int .u8 0 :: Value.int .u8 0 :: Value.int .u8 0 :: Value.int .u8 0 :: Value.int .u8 0 :: Value.int .u8 0 :: Value.int .u8 0 :: Value.int .u8 0 :: Value.int .u8 0 :: Value.int .u8 0 :: []) := bs_of Tryz.underlying92 (fun w => by kernel_rfl) zv50 rfl rfl (by decide)
set_option maxHeartbeats 1000000 in
theorem does_spec {b bb q lm i sn sc on oc ln lc mn mc : Nat} {sa oa la ma : Option Addr} {s : SS} {z : AR25} (hI : SInv s i) (hi : i ≤ 60) (hz1 : z.2.1.2.1 ≤ 9223372036854775807) (hz2 : z.2.2.1.2.1 ≤ 9223372036854775807) : Spec Tryz.prog 8 [.agg (stC b 1 s.sq oa on oc la ln lc ma mn mc s.now).toArray, .agg (aE z).toArray] [rsl 6 oa on oc (s.ol.map oR), rsl 3 la ln lc (s.ll.map kR), rsl 8 ma mn mc (s.ml.map rrow), rsl 1 z.2.1.1 z.2.1.2.1 z.2.1.2.2.1 (z.2.1.2.2.2.map e3), rsl 1 z.2.2.1.1 z.2.2.1.2.1 z.2.2.1.2.2.1 (z.2.2.1.2.2.2.map e3)] [cl b 59 (swC bb q 1 sa sn sc lm s.sq), own 37 96 sa sn sc ((s.ol).map oC), bookA bb (atM s.ml), mp lm lkK iK s.lk] (fun v D' M' => ∃ (t : SS) (sa2 oa2 la2 ma2 : Option Addr) (sn2 sc2 on2 oc2 ln2 lc2 mn2 mc2 : Nat), v = .tuple #[.agg (stC b 1 t.sq oa2 on2 oc2 la2 ln2 lc2 ma2 mn2 mc2 t.now).toArray, .bool true] ∧ (SInv t (i + 1)) ∧ (JOk s z t.ml) ∧ D' = [rsl 6 oa2 on2 oc2 (t.ol.map oR), rsl 3 la2 ln2 lc2 (t.ll.map kR), rsl 8 ma2 mn2 mc2 (t.ml.map rrow)] ∧ M' = [cl b 59 (swC bb q 1 sa2 sn2 sc2 lm t.sq), own 37 96 sa2 sn2 sc2 ((t.ol).map oC), bookA bb (atM t.ml), mp lm lkK iK t.lk]) := by
  refine Spec.intro (n := 83) Tryz.func8 rfl rfl (by decide) (Nat.le_of_ble_eq_true rfl) rfl (fun _ => qA) (fun _ => qA) ?_
  intro σ D M
  have hI0 := hI
  obtain ⟨hO, hlm, hlc, hok, hsame, hndl, hndk, hsq0, hnow0⟩ := hI
  have hO8 := hO.lo
  refine T.ownLen (a := sa) (rows := s.ol.map oC) qM (fun hsl hsc => ?_)
  rw [List.length_map] at hsl
  refine T.rslLen2 (rows := s.ol.map oR) qM (fun hol hoc => ?_)
  rw [List.length_map] at hol
  refine T.rslLen2 (rows := s.ll.map kR) qM (fun hll hlcc => ?_)
  rw [List.length_map] at hll
  refine T.seq ?_
  refine T.region ?_
  refine L.box rfl rfl rfl (fun b2 => ?_)
  refine L.box rfl rfl rfl (fun b3 => ?_)
  refine L.alloc rfl ze36 (fun b4 => ?_)
  refine L.assign rfl rfl ?_
  refine L.nil ?_
  refine T.thenN ?_
  refine T.seq ?_
  refine T.region ?_
  refine L.assign rfl rfl ?_
  refine L.nil ?_
  refine T.thenN ?_
  refine T.seq ?_
  refine T.seq ?_
  refine T.region ?_
  first | refine L.field0 rfl fo41_0 rfl ?_ | refine L.field rfl fo41_0 rfl ?_
  refine L.load rfl sc3 rfl qC ?_
  refine L.nil ?_
  refine T.thenN ?_
  refine T.block ?_
  refine T.seq ?_
  refine T.region ?_
  refine L.eqI rfl rfl rfl ?_
  refine L.assign rfl rfl ?_
  refine L.nil ?_
  refine T.thenN ?_
  refine T.cond rfl (fun h14 => ?_) (fun h14 => ?_)
  · try simp only [decide_eq_true_eq, decide_eq_false_iff_not, Bool.not_eq_true', Bool.not_eq_false', Bool.and_eq_true, Bool.or_eq_true] at h14
    refine T.region ?_
    refine L.loadA rfl ag36 rfl qN ?_
    refine L.loadA rfl ag41 rfl qN ?_
    refine L.call rfl (evs.cons rfl <| evs.cons rfl <| evs.nil) qD qS (asks_spec (i := i) (s := s) (z := z) hI0 hi hz1 hz2) ?_
    rintro _ _ _ ⟨t, sa2, oa2, la2, ma2, sn2, sc2, on2, oc2, ln2, lc2, mn2, mc2, rfl, hI2, hJ2, rfl, rfl⟩
    refine L.norm qA qA ?_
    refine L.move rfl rfl ?_
    refine L.extract rfl rfl rfl ?_
    refine L.extract rfl rfl rfl ?_
    refine L.storeA ag36 rfl rfl qL qO qU qW ?_
    refine L.assign rfl rfl ?_
    refine L.nil ?_
    refine T.blkN ?_
    refine T.thenN ?_
    refine T.seq ?_
    refine T.region ?_
    refine L.loadA rfl ag36 rfl qN ?_
    refine L.move rfl rfl ?_
    refine L.storeA ag36 rfl rfl qL qO qU qW ?_
    refine L.assign rfl rfl ?_
    refine L.nil ?_
    refine T.thenN ?_
    refine T.ret ?_
    exact T.retAT rfl ag36 rfl qN rfl ⟨t, _, _, _, _, _, _, _, _, _, _, _, _, rfl, hI2, hJ2, rfl, rfl⟩ qD qF
  · try simp only [decide_eq_true_eq, decide_eq_false_iff_not, Bool.not_eq_true', Bool.not_eq_false', Bool.and_eq_true, Bool.or_eq_true] at h14
    refine T.seq ?_
    refine T.seq ?_
    refine T.region ?_
    refine L.eqI rfl rfl rfl ?_
    refine L.assign rfl rfl ?_
    refine L.nil ?_
    refine T.thenN ?_
    refine T.cond rfl (fun h22 => ?_) (fun h22 => ?_)
    · try simp only [decide_eq_true_eq, decide_eq_false_iff_not, Bool.not_eq_true', Bool.not_eq_false', Bool.and_eq_true, Bool.or_eq_true] at h22
      refine T.skip ?_
      refine T.thenN ?_
      refine T.condT rfl (decide_eq_true (by omega)) ?_
      refine T.region ?_
      refine L.loadA rfl ag36 rfl qN ?_
      refine L.loadA rfl ag41 rfl qN ?_
      refine L.call rfl (evs.cons rfl <| evs.cons rfl <| evs.nil) qD qS (comes_spec (i := i) (s := s) (z := z) hI0 hi (by omega)) ?_
      rintro _ _ _ ⟨t, sa2, oa2, la2, ma2, sn2, sc2, on2, oc2, ln2, lc2, mn2, mc2, rfl, hI2, hJ2, rfl, rfl⟩
      refine L.norm qA qA ?_
      refine L.move rfl rfl ?_
      refine L.extract rfl rfl rfl ?_
      refine L.extract rfl rfl rfl ?_
      refine L.storeA ag36 rfl rfl qL qO qU qW ?_
      refine L.assign rfl rfl ?_
      refine L.nil ?_
      refine T.blkN ?_
      refine T.thenN ?_
      refine T.seq ?_
      refine T.region ?_
      refine L.loadA rfl ag36 rfl qN ?_
      refine L.move rfl rfl ?_
      refine L.storeA ag36 rfl rfl qL qO qU qW ?_
      refine L.assign rfl rfl ?_
      refine L.nil ?_
      refine T.thenN ?_
      refine T.ret ?_
      exact T.retAT rfl ag36 rfl qN rfl ⟨t, _, _, _, _, _, _, _, _, _, _, _, _, rfl, hI2, hJ2, rfl, rfl⟩ qD qF
    · try simp only [decide_eq_true_eq, decide_eq_false_iff_not, Bool.not_eq_true', Bool.not_eq_false', Bool.and_eq_true, Bool.or_eq_true] at h22
      refine T.region ?_
      refine L.eqI rfl rfl rfl ?_
      refine L.assign rfl rfl ?_
      refine L.nil ?_
      refine T.thenN ?_
      refine T.cond rfl (fun h22 => ?_) (fun h22 => ?_)
      · try simp only [decide_eq_true_eq, decide_eq_false_iff_not, Bool.not_eq_true', Bool.not_eq_false', Bool.and_eq_true, Bool.or_eq_true] at h22
        refine T.region ?_
        refine L.loadA rfl ag36 rfl qN ?_
        refine L.loadA rfl ag41 rfl qN ?_
        refine L.call rfl (evs.cons rfl <| evs.cons rfl <| evs.nil) qD qS (comes_spec (i := i) (s := s) (z := z) hI0 hi (by omega)) ?_
        rintro _ _ _ ⟨t, sa2, oa2, la2, ma2, sn2, sc2, on2, oc2, ln2, lc2, mn2, mc2, rfl, hI2, hJ2, rfl, rfl⟩
        refine L.norm qA qA ?_
        refine L.move rfl rfl ?_
        refine L.extract rfl rfl rfl ?_
        refine L.extract rfl rfl rfl ?_
        refine L.storeA ag36 rfl rfl qL qO qU qW ?_
        refine L.assign rfl rfl ?_
        refine L.nil ?_
        refine T.blkN ?_
        refine T.thenN ?_
        refine T.seq ?_
        refine T.region ?_
        refine L.loadA rfl ag36 rfl qN ?_
        refine L.move rfl rfl ?_
        refine L.storeA ag36 rfl rfl qL qO qU qW ?_
        refine L.assign rfl rfl ?_
        refine L.nil ?_
        refine T.thenN ?_
        refine T.ret ?_
        exact T.retAT rfl ag36 rfl qN rfl ⟨t, _, _, _, _, _, _, _, _, _, _, _, _, rfl, hI2, hJ2, rfl, rfl⟩ qD qF
      · try simp only [decide_eq_true_eq, decide_eq_false_iff_not, Bool.not_eq_true', Bool.not_eq_false', Bool.and_eq_true, Bool.or_eq_true] at h22
        refine T.seq ?_
        refine T.region ?_
        refine L.eqI rfl rfl rfl ?_
        refine L.assign rfl rfl ?_
        refine L.nil ?_
        refine T.thenN ?_
        refine T.cond rfl (fun h31 => ?_) (fun h31 => ?_)
        · try simp only [decide_eq_true_eq, decide_eq_false_iff_not, Bool.not_eq_true', Bool.not_eq_false', Bool.and_eq_true, Bool.or_eq_true] at h31
          have hand := Int.emod_nonneg z.1.2.1 (show (15 + 1 : Int) ≠ 0 by decide)
          have hand2 := Int.emod_lt_of_pos z.1.2.1 (show (0 : Int) < 15 + 1 by decide)
          refine T.seq ?_
          refine T.region ?_
          first | refine L.field0 rfl fo36_2 rfl ?_ | refine L.field rfl fo36_2 rfl ?_
          refine L.load rfl sc3 rfl qC ?_
          first | refine L.field0 rfl fo41_1 rfl ?_ | refine L.field rfl fo41_1 rfl ?_
          refine L.load rfl sc3 rfl qC ?_
          refine L.andM rfl rfl rfl (k := 4) (by decide) (by decide) ?_
          refine L.addN rfl rfl rfl (by omega) ?_
          first | refine L.field0 rfl fo36_2 rfl ?_ | refine L.field rfl fo36_2 rfl ?_
          refine L.store sc3 rfl rfl rfl qU qE ?_
          refine L.nil ?_
          refine T.thenN ?_
          refine T.seq ?_
          refine T.region ?_
          first | refine L.field0 rfl fo36_0 rfl ?_ | refine L.field rfl fo36_0 rfl ?_
          refine L.load rfl sc24 rfl qC ?_
          first | refine L.field0 rfl fo36_2 rfl ?_ | refine L.field rfl fo36_2 rfl ?_
          refine L.load rfl sc3 rfl qC ?_
          refine L.call rfl (evs.cons rfl <| evs.cons rfl <| evs.nil) qD qS (tickM_spec (b := b) (bb := bb) (q := q) (lm := lm) (o := 1) (sq := s.sq) (F := atM s.ml) (lk := s.lk) (ol := s.ol) (now := (s.now + z.1.2.1 % (15 + 1))) (by omega) (by omega) (by omega) (sinceB hI0)) ?_
          rintro _ _ _ ⟨sa2, sn2, sc2, rfl, hsn2, rfl, rfl⟩
          refine L.norm qA qA ?_
          rw [delS_sim]
          refine L.nil ?_
          refine T.thenN ?_
          refine T.region ?_
          first | refine L.field0 rfl fo36_1 rfl ?_ | refine L.field rfl fo36_1 rfl ?_
          refine L.loadA rfl ag34 rfl qN ?_
          first | refine L.field0 rfl fo36_2 rfl ?_ | refine L.field rfl fo36_2 rfl ?_
          refine L.load rfl sc3 rfl qC ?_
          refine L.call rfl (evs.cons rfl <| evs.cons rfl <| evs.nil) qD qS (rtick_spec (o := 1) (sq := s.sq) (ol := s.ol) (ll := s.ll) (ml := s.ml) (now := (s.now + z.1.2.1 % (15 + 1))) (by omega) (by omega) (by omega) hok (by omega) (by omega) (sinceB hI0)) ?_
          rintro _ _ _ ⟨oa2, la2, ma2, on2, oc2, ln2, lc2, mn2, mc2, rfl, hx1, hx2, rfl, rfl⟩
          refine L.norm qA qA ?_
          first | refine L.field0 rfl fo36_1 rfl ?_ | refine L.field rfl fo36_1 rfl ?_
          refine L.storeA ag34 rfl rfl qL qO qU qW ?_
          refine L.nil ?_
          refine T.blkN ?_
          refine T.thenN ?_
          refine T.seq ?_
          refine T.region ?_
          refine L.loadA rfl ag36 rfl qN ?_
          refine L.move rfl rfl ?_
          refine L.storeA ag36 rfl rfl qL qO qU qW ?_
          refine L.assign rfl rfl ?_
          refine L.nil ?_
          refine T.thenN ?_
          refine T.ret ?_
          exact T.retAT rfl ag36 rfl qN rfl ⟨⟨s.ol.filter (fun x => !lateB (s.now + z.1.2.1 % (15 + 1)) x), delS (lateB (s.now + z.1.2.1 % (15 + 1))) (silL (s.now + z.1.2.1 % (15 + 1))) s.ml s.ol, s.lk.filter (fun e => decide ((s.now + z.1.2.1 % (15 + 1)) < e.2)), s.ll.filter (fun e => decide ((s.now + z.1.2.1 % (15 + 1)) < e.2)), s.sq, (s.now + z.1.2.1 % (15 + 1))⟩, _, _, _, _, _, _, _, _, _, _, _, _, rfl, tick_inv hI0 (by omega) hi, tick_j, rfl, rfl⟩ qD qF
        · try simp only [decide_eq_true_eq, decide_eq_false_iff_not, Bool.not_eq_true', Bool.not_eq_false', Bool.and_eq_true, Bool.or_eq_true] at h31
          refine T.seq ?_
          refine T.region ?_
          refine L.eqI rfl rfl rfl ?_
          refine L.assign rfl rfl ?_
          refine L.nil ?_
          refine T.thenN ?_
          refine T.cond rfl (fun h51 => ?_) (fun h51 => ?_)
          · try simp only [decide_eq_true_eq, decide_eq_false_iff_not, Bool.not_eq_true', Bool.not_eq_false', Bool.and_eq_true, Bool.or_eq_true] at h51
            refine T.seq ?_
            refine T.region ?_
            first | refine L.field0 rfl fo41_3 rfl ?_ | refine L.field rfl fo41_3 rfl ?_
            refine L.load rfl sc39 rfl qC ?_
            refine L.call rfl (evs.cons rfl <| evs.nil) qD qS (wants_spec (xs := z.2.1.2.2.2) hz1) ?_
            rintro _ _ _ ⟨wa, ta, wn, wc, tn, tc, rfl, hwn, htn, hw12, rfl, rfl⟩
            refine L.norm qA qA ?_
            refine L.move rfl rfl ?_
            refine L.extract rfl rfl rfl ?_
            refine L.extract rfl rfl rfl ?_
            refine L.assign rfl rfl ?_
            refine L.assign rfl rfl ?_
            refine L.nil ?_
            refine T.thenN ?_
            refine T.seq ?_
            refine T.region ?_
            refine L.buildSlice rfl bs92 (by decide) (BP.doneE (out := []) rfl) (fun b59 => ?_)
            refine L.toOwn (len := 0) qP (rows := ([] : List ID32).map iC) (sz := 32) (by rfl) rfl (by simp) ?_
            refine L.assign rfl rfl ?_
            refine L.nil ?_
            refine T.thenN ?_
            refine T.seq ?_
            refine T.seq ?_
            refine T.region ?_
            refine L.move rfl rfl ?_
            refine L.lenSl rfl Tryz.underlying42 rfl ?_
            refine L.move rfl rfl ?_
            refine L.nil ?_
            refine T.thenN ?_
            refine T.block ?_
            refine T.loop (fun K' D' M' μ => ∃ (k : Nat) (a9 : Option Addr) (c9 : Nat), (k ≤ wn) ∧ K' = [(62, .int .i64 k), (9, .slice a9 k c9)] ∧ D' = [] ∧ M' = [own 32 50 a9 k c9 ((idsF ((chs z.2.1.2.2.2).take k)).map iC)] ∧ μ = wn - k) (.cons (t := 2) rfl <| .cons (t := 4) rfl <| .cons (t := 6) rfl <| .cons (t := 8) rfl <| .cons (t := 60) rfl <| .cons (t := 61) rfl <| SubK.nil _) (⟨0, _, _, Nat.zero_le _, rfl, rfl, rfl, rfl⟩) (.cons (t := 62) rfl <| .cons (t := 9) rfl <| SubK.nil _) qD qS ?_
            rintro K1 D1 M1 m1 ⟨k, a9, c9, hk_, rfl, rfl, rfl, rfl⟩
            refine T.norm3 qA qA qA ?_
            refine T.seq ?_
            have hcw : (chs z.2.1.2.2.2).length = wn := hwn
            refine T.region ?_
            refine L.ltI rfl rfl rfl ?_
            refine L.nil ?_
            refine T.thenN ?_
            refine T.seq ?_
            refine T.cond rfl (fun h63 => ?_) (fun h63 => ?_)
            · try simp only [decide_eq_true_eq, decide_eq_false_iff_not, Bool.not_eq_true', Bool.not_eq_false', Bool.and_eq_true, Bool.or_eq_true] at h63
              refine T.skip ?_
              refine T.thenN ?_
              refine T.seq ?_
              refine T.block ?_
              refine T.seq ?_
              have hgk : (chs z.2.1.2.2.2)[k]? = some (gd (chs z.2.1.2.2.2) k) := gd_get (by omega)
              obtain ⟨w, hw_⟩ : ∃ w, w = gd (chs z.2.1.2.2.2) k := ⟨_, rfl⟩
              rw [← hw_] at hgk
              have hgw : ((chs z.2.1.2.2.2).map wC)[k]? = some (wC w) := map_get hgk
              have hwl := wC_len w
              have hw32 := w.2.1.2
              refine T.region ?_
              refine L.idx (i := k) rfl Tryz.underlying42 sz52 rfl rfl qM (by first | rfl | omega | (simp; done)) qG (fun b64 o64 => ?_)
              refine L.loadA rfl ag52 rfl (CellsN.ofD qM (wC_len _)) ?_
              refine L.alloc rfl ze52 (fun b11 => ?_)
              refine L.storeA ag52 rfl rfl qL qO qU qW ?_
              refine L.nil ?_
              refine T.thenN ?_
              refine T.region ?_
              refine L.move rfl rfl ?_
              first | refine L.field0 rfl fo52_1 rfl ?_ | refine L.field rfl fo52_1 rfl ?_
              refine L.loadA rfl ag50 rfl qN ?_
              refine L.buildSlice rfl bs92 (by decide) (BP.agg rfl rfl (by first | with_reducible assumption | (simp; done) | (simp only [List.length_map]; with_reducible assumption) | (simp [*]; done) | rfl) (Nat.le_of_ble_eq_true rfl) qR <| BP.doneE (out := []) rfl) (fun b69 => ?_)
              refine L.append1 rfl Tryz.underlying92 el50 rfl rfl qP qM (by rw [List.append_nil]; exact iC_len _) (fun u hu => by rw [List.append_nil] at hu; exact one_iC u hu) qI qI (fun a70 c70 => ?_)
              refine L.assign rfl rfl ?_
              refine L.nil ?_
              refine T.blkN ?_
              refine T.thenN ?_
              refine T.region ?_
              refine L.addN rfl rfl rfl (by omega) ?_
              refine L.move rfl rfl ?_
              refine L.nil ?_
              refine T.thenN ?_
              refine T.ownEq a70 ((idsF ((chs z.2.1.2.2.2).take (k + 1))).map iC) qP (by rw [ids_s hgk, List.append_nil]) ?_
              exact T.back ⟨k + 1, _, _, (by omega), rfl, rfl, rfl, rfl⟩ qI (.cons (t := 62) rfl <| .cons (t := 9) rfl <| SubK.nil _) (.cons (t := 2) rfl <| .cons (t := 4) rfl <| .cons (t := 6) rfl <| .cons (t := 8) rfl <| .cons (t := 60) rfl <| .cons (t := 61) rfl <| SubK.nil _) qD qD qF
            · try simp only [decide_eq_true_eq, decide_eq_false_iff_not, Bool.not_eq_true', Bool.not_eq_false', Bool.and_eq_true, Bool.or_eq_true] at h63
              obtain rfl : wn = k := by omega
              refine T.exit ?_
              refine T.thenX ?_
              refine T.thenX ?_
              refine T.blkX ?_
              refine T.thenN ?_
              refine T.seq ?_
              refine T.region ?_
              rw [List.take_of_length_le (by omega)]
              first | refine L.field0 rfl fo36_0 rfl ?_ | refine L.field rfl fo36_0 rfl ?_
              refine L.load rfl sc24 rfl qC ?_
              refine L.move rfl rfl ?_
              refine L.call rfl (evs.cons rfl <| evs.cons rfl <| evs.nil) qD qS (forgetS_spec (b := b) (bb := bb) (q := q) (lm := lm) (o := 1) (sq := s.sq) (F := atM s.ml) (lk := s.lk) (ol := s.ol) (ks := idsF (chs z.2.1.2.2.2)) (by omega) (by omega)) ?_
              rintro _ _ _ ⟨sa2, sn2, sc2, rfl, hsn2, rfl, rfl⟩
              refine L.norm qA qA ?_
              rw [idsF, keep_sim]
              refine L.nil ?_
              refine T.thenN ?_
              refine T.region ?_
              first | refine L.field0 rfl fo36_1 rfl ?_ | refine L.field rfl fo36_1 rfl ?_
              refine L.loadA rfl ag34 rfl qN ?_
              refine L.move rfl rfl ?_
              refine L.call rfl (evs.cons rfl <| evs.cons rfl <| evs.nil) qD qS (rforget_spec (o := 1) (sq := s.sq) (ol := s.ol) (ws := (chs z.2.1.2.2.2)) (by omega) (by omega)) ?_
              rintro _ _ _ ⟨oa2, on2, oc2, rfl, hx1, rfl, rfl⟩
              refine L.norm qA qA ?_
              first | refine L.field0 rfl fo36_1 rfl ?_ | refine L.field rfl fo36_1 rfl ?_
              refine L.storeA ag34 rfl rfl qL qO qU qW ?_
              refine L.nil ?_
              refine T.blkN ?_
              refine T.thenN ?_
              refine T.seq ?_
              refine T.region ?_
              refine L.loadA rfl ag36 rfl qN ?_
              refine L.move rfl rfl ?_
              refine L.storeA ag36 rfl rfl qL qO qU qW ?_
              refine L.assign rfl rfl ?_
              refine L.nil ?_
              refine T.thenN ?_
              refine T.ret ?_
              exact T.retAT rfl ag36 rfl qN rfl ⟨⟨s.ol.filter (keepB (chs z.2.1.2.2.2)), s.ml, s.lk, s.ll, s.sq, s.now⟩, _, _, _, _, _, _, _, _, _, _, _, _, rfl, forget_inv hI0, fun _ h => h, rfl, rfl⟩ qD qF
          · try simp only [decide_eq_true_eq, decide_eq_false_iff_not, Bool.not_eq_true', Bool.not_eq_false', Bool.and_eq_true, Bool.or_eq_true] at h51
            refine T.skip ?_
            refine T.blkN ?_
            refine T.thenN ?_
            refine T.seq ?_
            refine T.region ?_
            refine L.loadA rfl ag36 rfl qN ?_
            refine L.move rfl rfl ?_
            refine L.storeA ag36 rfl rfl qL qO qU qW ?_
            refine L.assign rfl rfl ?_
            refine L.nil ?_
            refine T.thenN ?_
            refine T.ret ?_
            exact T.retAT rfl ag36 rfl qN rfl ⟨s, _, _, _, _, _, _, _, _, _, _, _, _, rfl, hI0.up, fun _ h => h, rfl, rfl⟩ qD qF
end Cv
