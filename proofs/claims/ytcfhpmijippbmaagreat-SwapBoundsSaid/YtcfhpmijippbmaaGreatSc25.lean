/-
  The walks: acts that ask.
-/
import Derived.Test.YtcfhpmijippbmaaGreatSb25
import Derived.Test.YtcfhpmijippbmaaGreatProg
import Derived.KernelRfl
set_option linter.unusedVariables false
set_option linter.unusedSimpArgs false
set_option linter.unusedSectionVars false
set_option maxRecDepth 10000
namespace Cv
open Go Go.Proofs
/-- an order as it is told -/
def LetP (F : Int → Mind) (now : Int) (x : Ord) : Prop := (∃ m, 0 ≤ m ∧ m < 20 ∧ x.1 = chW m) ∧ (0 ≤ x.2.1 ∧ x.2.1 ≤ 15 ∧ x.2.1 ≠ 1) ∧ mayB F x.2.1 now = true ∧ 0 ≤ x.2.2.1
theorem askR_len {F : Int → Mind} {hs : List Int} {now o : Int} {lk : List (LK × Int)} {ws : List Wnt} {ol out ol' out' : List Ord} {sq sq' : Int} (h : AskR F hs now o lk ws ol sq out ol' sq' out') : out'.length ≤ out.length + ws.length := by
  induction h with
  | nil => simp
  | stop h => omega
  | skip h1 h2 _ ih => simp only [List.length_cons]; omega
  | ask h1 h2 h3 _ ih => rw [List.length_append, List.length_singleton] at ih; simp only [List.length_cons]; omega
theorem zv36 : ∀ w, (zeroValue 36).run Tryz.prog w = .ok (Value.agg #[Value.pointer none, Value.int .i64 0, Value.int .i64 0, Value.slice none 0 0, Value.slice none 0 0, Value.slice none 0 0, Value.int .i64 0]) w := fun w => by kernel_rfl
theorem ze36 : Ze Tryz.prog 36 [Value.pointer none, Value.int .i64 0, Value.int .i64 0, Value.slice none 0 0, Value.slice none 0 0, Value.slice none 0 0, Value.int .i64 0] := ⟨_, rfl, zv36⟩
theorem fo41_3 : Fo Tryz.prog 41 3 3 := fun a w => by kernel_rfl
theorem sc39 : Sc Tryz.prog 39 := fun w => ⟨by kernel_rfl, by kernel_rfl⟩
theorem fo41_4 : Fo Tryz.prog 41 4 4 := fun a w => by kernel_rfl
theorem fo36_0 : Fo Tryz.prog 36 0 0 := fun a w => by kernel_rfl
theorem fo36_2 : Fo Tryz.prog 36 2 6 := fun a w => by kernel_rfl
theorem ag36 : Ag Tryz.prog 36 7 := fun w => ⟨by kernel_rfl, by kernel_rfl⟩
set_option maxHeartbeats 1000000 in
theorem asks_spec {b bb q lm i sn sc on oc ln lc mn mc : Nat} {sa oa la ma : Option Addr} {s : SS} {z : AR25} (hI : SInv s i) (hi : i ≤ 60) (hz1 : z.2.1.2.1 ≤ 9223372036854775807) (hz2 : z.2.2.1.2.1 ≤ 9223372036854775807) : Spec Tryz.prog 26 [.agg (stC b 1 s.sq oa on oc la ln lc ma mn mc s.now).toArray, .agg (aE z).toArray] [rsl 6 oa on oc (s.ol.map oR), rsl 3 la ln lc (s.ll.map kR), rsl 8 ma mn mc (s.ml.map rrow), rsl 1 z.2.1.1 z.2.1.2.1 z.2.1.2.2.1 (z.2.1.2.2.2.map e3), rsl 1 z.2.2.1.1 z.2.2.1.2.1 z.2.2.1.2.2.1 (z.2.2.1.2.2.2.map e3)] [cl b 59 (swC bb q 1 sa sn sc lm s.sq), own 37 96 sa sn sc ((s.ol).map oC), bookA bb (atM s.ml), mp lm lkK iK s.lk] (fun v D' M' => ∃ (t : SS) (sa2 oa2 la2 ma2 : Option Addr) (sn2 sc2 on2 oc2 ln2 lc2 mn2 mc2 : Nat), v = .tuple #[.agg (stC b 1 t.sq oa2 on2 oc2 la2 ln2 lc2 ma2 mn2 mc2 t.now).toArray, .bool true] ∧ (SInv t (i + 1)) ∧ (JOk s z t.ml) ∧ D' = [rsl 6 oa2 on2 oc2 (t.ol.map oR), rsl 3 la2 ln2 lc2 (t.ll.map kR), rsl 8 ma2 mn2 mc2 (t.ml.map rrow)] ∧ M' = [cl b 59 (swC bb q 1 sa2 sn2 sc2 lm t.sq), own 37 96 sa2 sn2 sc2 ((t.ol).map oC), bookA bb (atM t.ml), mp lm lkK iK t.lk]) := by
  refine Spec.intro (n := 115) Tryz.func26 rfl rfl (by decide) (Nat.le_of_ble_eq_true rfl) rfl (fun _ => qA) (fun _ => qA) ?_
  intro σ D M
  have hI0 := hI
  obtain ⟨hO, hlm, hlc, hok, hsame, hndl, hndk, hsq0, hnow0⟩ := hI
  have hO8 := hO.lo
  refine T.ownLen (a := sa) (rows := s.ol.map oC) qM (fun hsl hsc => ?_)
  rw [List.length_map] at hsl
  refine T.rslLen2 (rows := s.ol.map oR) qM (fun hol hoc => ?_)
  rw [List.length_map] at hol
  refine T.rslLen2 (rows := s.ll.map kR) qM (fun hll hlcc => ?_)
  rw [List.length_map] at hll
  refine T.seq ?_
  refine T.region ?_
  refine L.box rfl rfl rfl (fun b2 => ?_)
  refine L.box rfl rfl rfl (fun b3 => ?_)
  refine L.alloc rfl ze36 (fun b4 => ?_)
  refine L.assign rfl rfl ?_
  refine L.nil ?_
  refine T.thenN ?_
  refine T.seq ?_
  refine T.region ?_
  first | refine L.field0 rfl fo41_3 rfl ?_ | refine L.field rfl fo41_3 rfl ?_
  refine L.load rfl sc39 rfl qC ?_
  refine L.call rfl (evs.cons rfl <| evs.nil) qD qS (wants_spec (xs := z.2.1.2.2.2) hz1) ?_
  rintro _ _ _ ⟨wa, ta, wn, wc, tn, tc, rfl, hwn, htn, hw12, rfl, rfl⟩
  refine L.norm qA qA ?_
  refine L.move rfl rfl ?_
  refine L.extract rfl rfl rfl ?_
  refine L.extract rfl rfl rfl ?_
  refine L.assign rfl rfl ?_
  refine L.assign rfl rfl ?_
  refine L.nil ?_
  refine T.thenN ?_
  refine T.seq ?_
  refine T.region ?_
  first | refine L.field0 rfl fo41_4 rfl ?_ | refine L.field rfl fo41_4 rfl ?_
  refine L.load rfl sc39 rfl qC ?_
  refine L.call rfl (evs.cons rfl <| evs.nil) qD qS (hold_spec (xs := z.2.2.1.2.2.2) hz2) ?_
  rintro _ _ _ ⟨ha, hn, hc, rfl, hhn, hh6, rfl, rfl⟩
  refine L.norm qA qA ?_
  refine L.assign rfl rfl ?_
  refine L.nil ?_
  refine T.thenN ?_
  refine T.seq ?_
  refine T.region ?_
  first | refine L.field0 rfl fo36_0 rfl ?_ | refine L.field rfl fo36_0 rfl ?_
  refine L.load rfl sc24 rfl qC ?_
  first | refine L.field0 rfl fo36_2 rfl ?_ | refine L.field rfl fo36_2 rfl ?_
  refine L.load rfl sc3 rfl qC ?_
  refine L.move rfl rfl ?_
  refine L.move rfl rfl ?_
  refine L.call rfl (evs.cons rfl <| evs.cons rfl <| evs.cons rfl <| evs.cons rfl <| evs.nil) qD qS (askW_spec (b := b) (bb := bb) (q := q) (lm := lm) (o := 1) (F := atM s.ml) (lk := s.lk) (ol := s.ol) (hs := hsF z.2.2.1.2.2.2) (ws := chs z.2.1.2.2.2) (now := s.now) (by omega) (by omega) (by omega) ⟨by omega, by omega⟩) ?_
  rintro _ _ _ ⟨ra, sa2, rn, rc, sn2, sc2, sq2, ol2, out2, rfl, hAR, hrn, hsn2, rfl, rfl⟩
  refine L.norm qA qA ?_
  have he := askR_ref hsame (fun h hh => (hsF_in h hh).1) hAR
  have hin := ask_inv (F := atM s.ml) (hs := hsF z.2.2.1.2.2.2) (now := s.now) (ll := s.ll) hsF_in ⟨by omega, by omega⟩ (P := LetP (atM s.ml) s.now) (fun w n k h1 h2 h3 h4 => ⟨h1, h2, h3, h4⟩) (ws := chs z.2.1.2.2.2) (ol := s.ol) (out := []) (sq := s.sq) chs_in hO hsq0.1 (by simp)
  have hcl := @chs_len z.2.1.2.2.2
  have hol2 := askR_len hAR
  rw [List.length_nil] at hol2
  rw [he] at hin
  obtain ⟨hO2, hsq2, hP2⟩ := hin
  simp only at hO2 hsq2 hP2
  have hO28 := hO2.lo
  refine L.assign rfl rfl ?_
  refine L.nil ?_
  refine T.ownRsl (rows := out2.map (lR 1)) qP ?_
  refine T.thenN ?_
  refine T.seq ?_
  refine T.region ?_
  first | refine L.field0 rfl fo36_1 rfl ?_ | refine L.field rfl fo36_1 rfl ?_
  refine L.loadA rfl ag34 rfl qN ?_
  first | refine L.field0 rfl fo36_2 rfl ?_ | refine L.field rfl fo36_2 rfl ?_
  refine L.load rfl sc3 rfl qC ?_
  refine L.move rfl rfl ?_
  refine L.move rfl rfl ?_
  refine L.call rfl (evs.cons rfl <| evs.cons rfl <| evs.cons rfl <| evs.cons rfl <| evs.nil) qD qS (rask_spec (o := 1) (sq := s.sq) (ol := s.ol) (ll := s.ll) (ml := s.ml) (hs := hsF z.2.2.1.2.2.2) (ws := chs z.2.1.2.2.2) (now := s.now) (by omega) (by omega) ⟨by omega, by omega⟩ (by omega) (by omega) (by omega)) ?_
  rintro _ _ _ ⟨r2, oa2, za, on2, oc2, zn, zc, rfl, hr2, hr21, hr22, rfl, rfl⟩
  refine L.norm qA qA ?_
  obtain rfl := hr2.trans he
  simp only at hr21 hr22
  refine L.move rfl rfl ?_
  refine L.extract rfl rfl rfl ?_
  refine L.extract rfl rfl rfl ?_
  refine L.alloc rfl ze34 (fun b10 => ?_)
  refine L.storeA ag34 rfl rfl qL qO qU qW ?_
  refine L.assign rfl rfl ?_
  refine L.nil ?_
  refine T.thenN ?_
  refine T.seq ?_
  refine T.region ?_
  refine L.loadA rfl ag34 rfl qN ?_
  first | refine L.field0 rfl fo36_1 rfl ?_ | refine L.field rfl fo36_1 rfl ?_
  refine L.storeA ag34 rfl rfl qL qO qU qW ?_
  refine L.nil ?_
  refine T.thenN ?_
  refine T.seq ?_
  refine T.seq ?_
  refine T.region ?_
  refine L.move rfl rfl ?_
  refine L.lenSl rfl Tryz.underlying72 rfl ?_
  refine L.move rfl rfl ?_
  refine L.lenSl rfl Tryz.underlying30 rfl ?_
  refine L.neI rfl rfl rfl ?_
  refine L.nil ?_
  refine T.thenN ?_
  refine T.condF rfl (decide_eq_false (fun e => e (by omega))) ?_
  refine T.skip ?_
  refine T.thenN ?_
  refine T.seq ?_
  refine T.seq ?_
  refine T.region ?_
  refine L.move rfl rfl ?_
  refine L.lenSl rfl Tryz.underlying30 rfl ?_
  refine L.move rfl rfl ?_
  refine L.nil ?_
  refine T.thenN ?_
  refine T.block ?_
  refine T.loop (fun K' D' M' μ => ∃ (j : Nat), (j ≤ zn) ∧ K' = [(50, .int .i64 j)] ∧ D' = [] ∧ M' = [] ∧ μ = zn - j) (.cons (t := 2) rfl <| .cons (t := 4) rfl <| .cons (t := 9) rfl <| .cons (t := 48) rfl <| .cons (t := 49) rfl <| SubK.nil _) (⟨0, Nat.zero_le _, rfl, rfl, rfl, rfl⟩) (.cons (t := 50) rfl <| SubK.nil _) qD qS ?_
  rintro K1 D1 M1 m1 ⟨j, hj, rfl, rfl, rfl, rfl⟩
  refine T.norm3 qA qA qA ?_
  refine T.seq ?_
  refine T.region ?_
  refine L.ltI rfl rfl rfl ?_
  refine L.nil ?_
  refine T.thenN ?_
  refine T.seq ?_
  refine T.cond rfl (fun h51 => ?_) (fun h51 => ?_)
  · try simp only [decide_eq_true_eq, decide_eq_false_iff_not, Bool.not_eq_true', Bool.not_eq_false', Bool.and_eq_true, Bool.or_eq_true] at h51
    refine T.skip ?_
    refine T.thenN ?_
    refine T.seq ?_
    refine T.block ?_
    refine T.seq ?_
    obtain ⟨x, hgj⟩ := ex_get (l := out2) (k := j) (by omega)
    have hgo : (out2.map oR)[j]? = some (oR x) := map_get hgj
    have hgl : (out2.map (lR 1))[j]? = some (lR 1 x) := map_get hgj
    have hx32 := x.1.2.1.2
    have hxl := @lR_len 1 x
    refine T.region ?_
    refine L.move rfl rfl ?_
    refine L.idx (i := j) rfl Tryz.underlying30 sz47 rfl rfl qM (by first | rfl | omega | (simp; done)) qG (fun b53 o53 => ?_)
    refine L.loadA rfl ag47 rfl qN ?_
    refine L.alloc rfl ze47 (fun b13 => ?_)
    refine L.assign rfl rfl ?_
    refine L.storeA ag47 rfl rfl qL qO qU qW ?_
    refine L.nil ?_
    refine T.thenN ?_
    refine T.seq ?_
    refine T.freeze (A := cl b13 47 (oR x)) qP ?_
    refine T.rslAddr (a := ra) (rows := out2.map (lR 1)) qM (fun e => by have h2 := congrArg List.length e; rw [List.length_map, List.length_nil] at h2; omega) (fun pk qk hka => ?_)
    subst hka
    refine T.regionQ (by kernel_rfl) (by kernel_rfl) ?_
    refine L.move rfl rfl ?_
    refine L.move rfl rfl ?_
    refine L.idxG (i := j) rfl Tryz.underlying72 sz77 rfl rfl (by first | rfl | omega | (simp; done)) qI ?_
    first | refine L.field0 rfl fo77_0 rfl ?_ | refine L.field rfl fo77_0 rfl ?_
    refine L.load rfl sc3 rfl qC ?_
    refine L.neI rfl rfl rfl ?_
    refine L.move rfl rfl ?_
    refine L.known (t := 61) rfl (show _ = Value.bool false from rfl) ?_
    refine L.guardT (dj := 61) rfl rfl rfl ?_
    refine L.move rfl rfl ?_
    refine L.guardT (dj := 61) rfl rfl rfl ?_
    refine L.move rfl rfl ?_
    refine L.guardT (dj := 61) rfl rfl rfl ?_
    refine L.idxG (i := j) rfl Tryz.underlying72 sz77 rfl rfl (by first | rfl | omega | (simp; done)) qI ?_
    refine L.guardT (dj := 61) rfl rfl rfl ?_
    first | refine L.field0 rfl fo77_1 rfl ?_ | refine L.field rfl fo77_1 rfl ?_
    refine L.guardT (dj := 61) rfl rfl rfl ?_
    refine L.load rfl sc3 rfl qC ?_
    refine L.guardT (dj := 61) rfl rfl rfl ?_
    refine L.neI rfl rfl rfl ?_
    refine L.pickF rfl rfl rfl ?_
    refine L.move rfl rfl ?_
    refine L.known (t := 69) rfl (show _ = Value.bool false from rfl) ?_
    refine L.guardT (dj := 69) rfl rfl rfl ?_
    refine L.move rfl rfl ?_
    refine L.guardT (dj := 69) rfl rfl rfl ?_
    refine L.move rfl rfl ?_
    refine L.guardT (dj := 69) rfl rfl rfl ?_
    refine L.idxG (i := j) rfl Tryz.underlying72 sz77 rfl rfl (by first | rfl | omega | (simp; done)) qI ?_
    refine L.guardT (dj := 69) rfl rfl rfl ?_
    first | refine L.field0 rfl fo77_2 rfl ?_ | refine L.field rfl fo77_2 rfl ?_
    refine L.guardT (dj := 69) rfl rfl rfl ?_
    refine L.load rfl sc3 rfl qC ?_
    refine L.guardT (dj := 69) rfl rfl rfl ?_
    first | refine L.field0 rfl fo47_1 rfl ?_ | refine L.field rfl fo47_1 rfl ?_
    refine L.guardT (dj := 69) rfl rfl rfl ?_
    refine L.load rfl sc3 rfl qC ?_
    refine L.guardT (dj := 69) rfl rfl rfl ?_
    refine L.neI rfl rfl rfl ?_
    refine L.pickF rfl rfl rfl ?_
    refine L.move rfl rfl ?_
    refine L.known (t := 79) rfl (show _ = Value.bool false from congrArg Value.bool (decide_eq_false (fun e => e rfl))) ?_
    refine L.guardT (dj := 79) rfl rfl rfl ?_
    refine L.move rfl rfl ?_
    refine L.guardT (dj := 79) rfl rfl rfl ?_
    refine L.move rfl rfl ?_
    refine L.guardT (dj := 79) rfl rfl rfl ?_
    refine L.idxG (i := j) rfl Tryz.underlying72 sz77 rfl rfl (by first | rfl | omega | (simp; done)) qI ?_
    refine L.guardT (dj := 79) rfl rfl rfl ?_
    first | refine L.field0 rfl fo77_3 rfl ?_ | refine L.field rfl fo77_3 rfl ?_
    refine L.guardT (dj := 79) rfl rfl rfl ?_
    refine L.load rfl sc3 rfl qC ?_
    refine L.guardT (dj := 79) rfl rfl rfl ?_
    first | refine L.field0 rfl fo47_2 rfl ?_ | refine L.field rfl fo47_2 rfl ?_
    refine L.guardT (dj := 79) rfl rfl rfl ?_
    refine L.load rfl sc3 rfl qC ?_
    refine L.guardT (dj := 79) rfl rfl rfl ?_
    refine L.neI rfl rfl rfl ?_
    refine L.pickF rfl rfl rfl ?_
    refine L.move rfl rfl ?_
    refine L.known (t := 89) rfl (show _ = Value.bool false from congrArg Value.bool (decide_eq_false (fun e => e rfl))) ?_
    refine L.guardT (dj := 89) rfl rfl rfl ?_
    refine L.move rfl rfl ?_
    refine L.guardT (dj := 89) rfl rfl rfl ?_
    refine L.move rfl rfl ?_
    refine L.guardT (dj := 89) rfl rfl rfl ?_
    refine L.idxG (i := j) rfl Tryz.underlying72 sz77 rfl rfl (by first | rfl | omega | (simp; done)) qI ?_
    refine L.guardT (dj := 89) rfl rfl rfl ?_
    first | refine L.field0 rfl fo77_4 rfl ?_ | refine L.field rfl fo77_4 rfl ?_
    refine L.guardT (dj := 89) rfl rfl rfl ?_
    refine L.loadA rfl ag50 rfl qN ?_
    refine L.guardT (dj := 89) rfl rfl rfl ?_
    refine L.callF rfl (evs.cons rfl <| evs.nil) qD qS (obytes_spec (l := x.1.2.1.1) hx32) (by rintro u D1 M1 ⟨rfl, rfl, rfl⟩; exact ⟨rfl, _, qA, qF⟩) ?_
    refine L.guardT (dj := 89) rfl rfl rfl ?_
    first | refine L.field0 rfl fo47_0 rfl ?_ | refine L.field rfl fo47_0 rfl ?_
    refine L.guardT (dj := 89) rfl rfl rfl ?_
    first | refine L.field0 rfl fo45_1 rfl ?_ | refine L.field rfl fo45_1 rfl ?_
    refine L.guardT (dj := 89) rfl rfl rfl ?_
    refine L.load rfl sc9 rfl qC ?_
    refine L.guardT (dj := 89) rfl rfl rfl ?_
    refine L.neS rfl rfl rfl ?_
    refine L.pickF rfl rfl rfl ?_
    refine L.move rfl rfl ?_
    refine L.known (t := 101) rfl (show _ = Value.bool false from congrArg Value.bool (by simp)) ?_
    refine L.guardT (dj := 101) rfl rfl rfl ?_
    refine L.move rfl rfl ?_
    refine L.guardT (dj := 101) rfl rfl rfl ?_
    refine L.move rfl rfl ?_
    refine L.guardT (dj := 101) rfl rfl rfl ?_
    refine L.idxG (i := j) rfl Tryz.underlying72 sz77 rfl rfl (by first | rfl | omega | (simp; done)) qI ?_
    refine L.guardT (dj := 101) rfl rfl rfl ?_
    first | refine L.field0 rfl fo77_5 rfl ?_ | refine L.field rfl fo77_5 rfl ?_
    refine L.guardT (dj := 101) rfl rfl rfl ?_
    refine L.load rfl sc3 rfl qC ?_
    refine L.guardT (dj := 101) rfl rfl rfl ?_
    first | refine L.field0 rfl fo47_0 rfl ?_ | refine L.field rfl fo47_0 rfl ?_
    refine L.guardT (dj := 101) rfl rfl rfl ?_
    first | refine L.field0 rfl fo45_0 rfl ?_ | refine L.field rfl fo45_0 rfl ?_
    refine L.guardT (dj := 101) rfl rfl rfl ?_
    refine L.load rfl sc3 rfl qC ?_
    refine L.guardT (dj := 101) rfl rfl rfl ?_
    refine L.neI rfl rfl rfl ?_
    refine L.pickF rfl rfl rfl ?_
    refine L.nilQ ?_
    refine T.thenN ?_
    refine T.condF rfl (decide_eq_false (fun e => e rfl)) ?_
    refine T.skip ?_
    refine T.blkN ?_
    refine T.thenN ?_
    refine T.region ?_
    refine L.addN rfl rfl rfl (by omega) ?_
    refine L.move rfl rfl ?_
    refine L.nil ?_
    refine T.thenN ?_
    exact T.back ⟨j + 1, qT, rfl, rfl, rfl, rfl⟩ qI (.cons (t := 50) rfl <| SubK.nil _) (.cons (t := 2) rfl <| .cons (t := 4) rfl <| .cons (t := 9) rfl <| .cons (t := 48) rfl <| .cons (t := 49) rfl <| SubK.nil _) qD qD qF
  · try simp only [decide_eq_true_eq, decide_eq_false_iff_not, Bool.not_eq_true', Bool.not_eq_false', Bool.and_eq_true, Bool.or_eq_true] at h51
    refine T.exit ?_
    refine T.thenX ?_
    refine T.thenX ?_
    refine T.blkX ?_
    refine T.thenN ?_
    refine T.seq ?_
    refine T.region ?_
    refine L.loadA rfl ag36 rfl qN ?_
    refine L.storeA ag36 rfl rfl qL qO qU qW ?_
    refine L.assign rfl rfl ?_
    refine L.nil ?_
    refine T.thenN ?_
    refine T.ret ?_
    exact T.retAT rfl ag36 rfl qN rfl ⟨⟨ol2, s.ml, s.lk, s.ll, sq2, s.now⟩, _, _, _, _, _, _, _, _, _, _, _, _, rfl, ⟨hO2, by show s.ml.length ≤ 8 * (i + 1); omega, by show s.ll.length ≤ i + 1; omega, hok, hsame, hndl, hndk, ⟨by show 0 ≤ sq2; omega, by show sq2 ≤ 12 * ((i + 1 : Nat) : Int); omega⟩, ⟨hnow0.1, by show s.now ≤ 15 * ((i + 1 : Nat) : Int); omega⟩⟩, fun _ h => h, rfl, rfl⟩ qD qF
end Cv
