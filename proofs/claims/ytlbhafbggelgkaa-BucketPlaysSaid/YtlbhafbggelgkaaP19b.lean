/-
  The walk of the law that compares bucket with its reference.
-/
import Derived.Test.YtlbhafbggelgkaaR19c
import Derived.Test.YtlbhafbggelgkaaProg
import Derived.KernelRfl
set_option maxRecDepth 10000
set_option linter.unusedSimpArgs false
set_option linter.unusedVariables false
namespace Cv
open Go Go.Proofs
@[reducible] def e77 : Int × Int → List Value | (a_0, a_1) => [.int .i64 a_0, .int .i64 a_1]
def g77 : Int × Int → Prop | (a_0, a_1) => (-9223372036854775808 ≤ a_0 ∧ a_0 ≤ 9223372036854775807) ∧ (-9223372036854775808 ≤ a_1 ∧ a_1 ≤ 9223372036854775807)
theorem el77z {H : Type} {enc : TypeId × Value → H} {W : World} {base : Nat} {sp : Nat → Bool} {held : Bool} {n : Nat} {cs : List Value} {y : DataW H × List MemPlace} (h : DataW.trod enc Try.prog W base sp held n 77 cs = some y) : ∃ z, cs = e77 z ∧ g77 z := by
  obtain ⟨xs, m, -, -, hl, hx, hf⟩ := DataW.trod_struct Try.underlying77 h
  rw [show Try.prog.cellsOf 77 = 2 from by kernel_rfl] at hl
  match cs, hl with
  | [c0, c1], _ =>
    obtain ⟨y0, h0⟩ := Cv.el_field (o := 0) hx hf 0 _ rfl rfl (show Try.prog.cellsOf 3 = 1 from by kernel_rfl)
    obtain ⟨a_0, e0, w0⟩ := el3z h0
    simp only [e3, List.drop, List.take, List.cons.injEq, and_true] at e0
    obtain rfl := e0
    simp only [g3] at w0
    obtain ⟨y1, h1⟩ := Cv.el_field (o := 1) hx hf 1 _ rfl rfl (show Try.prog.cellsOf 3 = 1 from by kernel_rfl)
    obtain ⟨a_1, e1, w1⟩ := el3z h1
    simp only [e3, List.drop, List.take, List.cons.injEq, and_true] at e1
    obtain rfl := e1
    simp only [g3] at w1
    exact ⟨(a_0, a_1), rfl, ⟨w0, w1⟩⟩
theorem bu47 : Bu Try.prog 47 [Value.int .i64 0, Value.slice none 0 0] (fun (i : Nat) => ([(0, 1), (1, 1)] : List (Nat × Nat))[i]?) := bu_of Try.underlying47 zv47 rfl (fun w => by kernel_rfl)
theorem sz77 : Sz Try.prog 77 2 := fun w => by kernel_rfl
theorem fo77_1 : Fo Try.prog 77 1 1 := fun a w => by kernel_rfl
theorem fo77_0 : Fo Try.prog 77 0 0 := fun a w => by kernel_rfl
set_option maxHeartbeats 400000 in
theorem own_spec {b : Nat} {o : Int} {F : Int → Row}  : Spec Try.prog 24 [.pointer (some ⟨b, 0, none⟩)] [] [tblA b o F] (fun v D' M' => v = .int .i64 o ∧ D' = [] ∧ M' = [tblA b o F]) := by
  refine Spec.intro (n := 7) Try.func24 rfl rfl (by decide) (Nat.le_of_ble_eq_true rfl) rfl (fun _ => qA) (fun _ => qA) ?_
  intro σ D M
  refine T.tblOpen qP (fun mb ml hF => ?_)
  have hido := idF_len o
  have h34 := hdr_len (o := o) (mb := mb)
  refine T.seq ?_
  refine T.region ?_
  refine L.assign rfl rfl ?_
  refine L.nil ?_
  refine T.thenN ?_
  refine T.seq ?_
  refine T.region ?_
  refine L.move rfl rfl ?_
  refine L.nilCheck rfl rfl ?_
  first | refine L.field0 rfl fo57_0 rfl ?_ | refine L.field rfl fo57_0 rfl ?_
  refine L.load rfl sc3 rfl qC ?_
  refine L.assign rfl rfl ?_
  refine L.nil ?_
  refine T.tblShut hF qS ?_
  refine T.thenN ?_
  refine T.ret ?_
  exact T.ret1 rfl rfl ⟨rfl, rfl, rfl⟩ qD qF
set_option maxHeartbeats 400000 in
theorem near_spec {b kk : Nat} {o n : Int} {F : Int → Row} {g : List UInt8} (hg : g.length = 32) (hkk : max 0 (min n ((allF o F).length : Int)) = (kk : Int)) : Spec Try.prog 25 [.pointer (some ⟨b, 0, none⟩), .agg (g.map Y).toArray, .int .i64 n] [] [tblA b o F] (fun v D' M' => ∃ (a1 : Option Addr) (c1 : Nat), v = .slice a1 kk c1 ∧ D' = [rsl 1 a1 kk c1 (((srtG g (allF o F)).take kk).map e3)] ∧ M' = [tblA b o F]) := by
  refine Spec.intro (n := 19) Try.func25 rfl rfl (by decide) (Nat.le_of_ble_eq_true rfl) rfl (fun _ => qA) (fun _ => qA) ?_
  intro σ D M
  refine T.tblOk qM (fun hok => ?_)
  have hal := allF_len (o := o) (F := F)
  have hkk2 : kk ≤ (allF o F).length := by omega
  refine T.seq ?_
  refine T.region ?_
  refine L.box rfl rfl rfl (fun b4 => ?_)
  refine L.assign rfl rfl ?_
  refine L.nil ?_
  refine T.thenN ?_
  refine T.seq ?_
  refine T.regionA (clsL [0, 1, 0, 2, 1]) (by kernel_rfl) ?_
  refine A.takeP (i := 1) rfl rfl rfl rfl (by kernel_rfl) (by kernel_rfl) (by kernel_rfl) rfl ?_
  refine L.move rfl rfl ?_
  refine A.took ?_
  refine A.take (i := 0) rfl rfl rfl rfl (by kernel_rfl) (by kernel_rfl) (by kernel_rfl) (by kernel_rfl) rfl qD qF ?_
  refine L.loadA rfl ag34 rfl qN ?_
  refine A.took ?_
  refine A.branch (is := [2]) (by kernel_rfl) (by decide) (Each.cons rfl ?_ <| Each.nil) 
  refine L.call rfl (evs.cons rfl <| evs.nil) qD qS (all_spec) ?_
  rintro _ _ _ ⟨al, ac, rfl, rfl, rfl⟩
  refine L.norm qA qA ?_
  refine A.back rfl qD qF ?_
  refine A.branch (is := [3]) (by kernel_rfl) (by decide) (Each.cons rfl ?_ <| Each.nil) 
  refine L.callB1 rfl (evs.cons rfl <| evs.cons rfl <| evs.nil) qS qP (fun z H => rsl_of_own H) (bsort_spec (xs := allF o F) hg (by omega)) ?_
  rintro _ _ _ ⟨ga, gc, ys, rfl, hS, rfl, rfl⟩
  refine L.norm AppL.nil qA ?_
  have hys := srtG_of hg (allF_inR hok) hS
  have hyl := hS.1.length_eq
  subst hys
  refine A.backT rfl ?_
  refine A.takeP (i := 4) rfl rfl rfl rfl (by kernel_rfl) (by kernel_rfl) (by kernel_rfl) rfl ?_
  refine L.assign rfl rfl ?_
  refine A.took ?_
  refine A.done (by kernel_rfl) ?_
  refine T.thenN ?_
  refine T.seq ?_
  refine T.ownRsl (rows := (srtG g (allF o F)).map e3) qP ?_
  refine T.rslLen2 (rows := (srtG g (allF o F)).map e3) qM (fun hlx hcx => ?_)
  refine T.region ?_
  refine L.move rfl rfl ?_
  refine L.move rfl rfl ?_
  refine L.move rfl rfl ?_
  refine L.lenSl rfl Try.underlying22 rfl ?_
  refine L.minI rfl rfl rfl ?_
  refine L.maxI rfl rfl rfl ?_
  rw [hkk]
  refine L.sliceR rfl Try.underlying22 sz3 rfl Bd.no (Bd.at (x := kk) rfl (by first | rfl | omega | (simp; done))) qM qI qI qI (fun a18 => ?_)
  refine L.assign rfl rfl ?_
  refine L.nil ?_
  refine T.derive (φ := rsl 1 a18 (kk - 0) (gc - 0) ((((srtG g (allF o F)).map e3).drop 0).take (kk - 0))) (ψ := rsl 1 a18 kk (gc - 0) (((srtG g (allF o F)).take kk).map e3)) qM (fun z h => by simpa using h) ?_
  refine T.thenN ?_
  refine T.ret ?_
  exact T.ret1 rfl rfl ⟨_, _, rfl, rfl, rfl⟩ qD qF
set_option maxHeartbeats 1000000 in
theorem play_spec {a0 ow : Int} {a : Option Addr} {len cap : Nat} {xs : List (Int × Int)} (hx : xs.length = len) (hb : len ≤ 4611686018427387904) (how : ow = (a0.tmod 64 + 64).tmod 64)  : Spec Try.prog 22 [.int .i64 a0, .slice a len cap] [rsl 2 a len cap (xs.map e77)] [] (fun v D' M' => ∃ (b : Nat) (F : Int → Row) (tb : List One) (la : Option Addr) (lc : Nat), v = .tuple #[.pointer (some ⟨b, 0, none⟩), .agg [.int .i64 ow, .slice la tb.length lc].toArray] ∧ (Rel ow F tb 80) ∧ D' = [rsl 3 la tb.length lc ((tb).map orow)] ∧ M' = [tblA b ow F]) := by
  refine Spec.intro (n := 86) Try.func22 rfl rfl (by decide) (Nat.le_of_ble_eq_true rfl) rfl (fun _ => qA) (fun _ => qA) ?_
  intro σ D M
  refine T.seq ?_
  refine T.region ?_
  refine L.assign rfl rfl ?_
  refine L.alloc rfl ze47 (fun b5 => ?_)
  refine L.nil ?_
  refine T.thenN ?_
  refine T.seq ?_
  have hot := tmod64 a0
  refine T.region ?_
  refine L.move rfl rfl ?_
  refine L.remI rfl rfl rfl (by decide) ?_
  refine L.addN rfl rfl rfl (by omega) ?_
  refine L.remI rfl rfl rfl (by decide) ?_
  rw [← how]
  refine L.assign rfl rfl ?_
  refine L.nil ?_
  refine T.thenN ?_
  refine T.seq ?_
  refine T.region ?_
  refine L.move rfl rfl ?_
  refine L.call rfl (evs.cons rfl <| evs.nil) qD qS (bnew_spec) ?_
  rintro _ _ _ ⟨b, rfl, rfl, rfl⟩
  refine L.norm qA qA ?_
  refine L.assign rfl rfl ?_
  refine L.nil ?_
  refine T.eqv qP (show tblA b ow (fun _ => zR19) = tblA b ow F0 from rfl) ?_
  refine T.thenN ?_
  refine T.seq ?_
  refine T.region ?_
  refine L.move rfl rfl ?_
  refine L.build rfl bu47 (BP.one rfl rfl rfl <| BP.doneE (out := [Value.slice none 0 0]) rfl) ?_
  refine L.alloc rfl ze47 (fun b7 => ?_)
  refine L.storeA ag47 rfl rfl qL qO qU qW ?_
  refine L.nil ?_
  refine T.newOwn (sz := 3) (e := 96) ?_
  refine T.eqv qP (show own 3 96 none 0 0 [] = own 3 96 none ([] : List One).length 0 (([] : List One).map orow) from rfl) ?_
  refine T.ownRsl qP ?_
  refine T.thenN ?_
  refine T.seq ?_
  refine T.seq ?_
  refine T.region ?_
  refine L.assign rfl rfl ?_
  refine L.nil ?_
  refine T.thenN ?_
  refine T.block ?_
  refine T.loop (fun K' D' M' μ => ∃ (i : Nat) (F : Int → Row) (tb : List One) (la : Option Addr) (lc : Nat), ((i ≤ len ∧ i ≤ 80) ∧ Rel ow F tb i) ∧ K' = [(8, .int .i64 i)] ∧ D' = [rsl 3 la tb.length lc ((tb).map orow)] ∧ M' = [tblA b ow F, cl b7 47 [.int .i64 ow, .slice la tb.length lc]] ∧ μ = 80 - i) (.cons (t := 1) rfl <| .cons (t := 5) rfl <| .cons (t := 6) rfl <| .cons (t := 7) rfl <| SubK.nil _) (⟨0, _, [], _, _, ⟨by omega, rel_0⟩, rfl, rfl, rfl, rfl⟩) (.cons (t := 8) rfl <| SubK.nil _) qD qS ?_
  rintro K1 D1 M1 m1 ⟨i, F, tb, la, lc, ⟨⟨hi1, hi2⟩, hI⟩, rfl, rfl, rfl, rfl⟩
  refine T.norm3 qA qA qA ?_
  refine T.seq ?_
  refine T.seq ?_
  refine T.cutC (fun K' D' M' => ∃ (w : Bool), (w = true ↔ (i < len ∧ i < 80)) ∧ K' = [(32, .bool w)] ∧ D' = [] ∧ M' = []) (M0 := []) (.cons (t := 1) rfl <| .cons (t := 5) rfl <| .cons (t := 6) rfl <| .cons (t := 7) rfl <| .cons (t := 8) rfl <| SubK.nil _) qS ?_ ?_
  · skip
    refine T.region ?_
    refine L.move rfl rfl ?_
    refine L.move rfl rfl ?_
    refine L.lenSl rfl Try.underlying44 rfl ?_
    refine L.ltI rfl rfl rfl ?_
    refine L.move rfl rfl ?_
    refine L.part (t := 29) rfl (fun h1 => ?_) (fun h1 => ?_)
    · try simp only [decide_eq_true_eq, decide_eq_false_iff_not, Bool.not_eq_true', Bool.not_eq_false', Bool.and_eq_true, Bool.or_eq_true] at h1
      refine L.guardT (dj := 29) rfl rfl rfl ?_
      refine L.move rfl rfl ?_
      refine L.guardT (dj := 29) rfl rfl rfl ?_
      refine L.ltI rfl rfl rfl ?_
      refine L.pickT rfl rfl rfl ?_
      refine L.nil ?_
      refine T.thenN ?_
      exact T.toJoin ⟨_, (by simp; omega), rfl, rfl, rfl⟩ (.cons (t := 32) rfl <| SubK.nil _) (.cons (t := 1) rfl <| .cons (t := 5) rfl <| .cons (t := 6) rfl <| .cons (t := 7) rfl <| .cons (t := 8) rfl <| SubK.nil _) qD qD qF
    · try simp only [decide_eq_true_eq, decide_eq_false_iff_not, Bool.not_eq_true', Bool.not_eq_false', Bool.and_eq_true, Bool.or_eq_true] at h1
      refine L.guardF (dj := 29) (c := false) rfl rfl rfl rfl rfl (by decide) ?_
      refine L.guardF (dj := 29) (c := false) rfl rfl rfl rfl rfl (by decide) ?_
      refine L.pickF rfl rfl rfl ?_
      refine L.nil ?_
      refine T.thenN ?_
      exact T.toJoin ⟨_, (by simp; omega), rfl, rfl, rfl⟩ (.cons (t := 32) rfl <| SubK.nil _) (.cons (t := 1) rfl <| .cons (t := 5) rfl <| .cons (t := 6) rfl <| .cons (t := 7) rfl <| .cons (t := 8) rfl <| SubK.nil _) qD qD qF
  rintro _ _ _ ⟨w, hw, rfl, rfl, rfl⟩
  refine T.norm3 qA qA qA ?_
  refine T.thenN ?_
  refine T.cond rfl (fun h32 => ?_) (fun h32 => ?_)
  · try simp only [decide_eq_true_eq, decide_eq_false_iff_not, Bool.not_eq_true', Bool.not_eq_false', Bool.and_eq_true, Bool.or_eq_true] at h32
    have hwt := hw.1 h32
    refine T.skip ?_
    refine T.thenN ?_
    refine T.seq ?_
    refine T.block ?_
    refine T.seq ?_
    refine T.region ?_
    obtain ⟨⟨kd, n⟩, hgi⟩ : ∃ p, xs[i]? = some p := ⟨_, List.getElem?_eq_getElem (by omega)⟩
    refine L.move rfl rfl ?_
    refine L.move rfl rfl ?_
    refine L.idx (i := i) rfl Try.underlying44 sz77 rfl rfl qM (by first | rfl | omega | (simp; done)) qG (fun b37 o37 => ?_)
    first | refine L.field0 rfl fo77_1 rfl ?_ | refine L.field rfl fo77_1 rfl ?_
    refine L.load rfl sc3 rfl qC ?_
    refine L.assign rfl rfl ?_
    refine L.nil ?_
    refine T.thenN ?_
    refine T.seq ?_
    refine T.seq ?_
    refine T.region ?_
    refine L.move rfl rfl ?_
    refine L.move rfl rfl ?_
    refine L.idx (i := i) rfl Try.underlying44 sz77 rfl rfl qM (by first | rfl | omega | (simp; done)) qG (fun b42 o42 => ?_)
    first | refine L.field0 rfl fo77_0 rfl ?_ | refine L.field rfl fo77_0 rfl ?_
    refine L.load rfl sc3 rfl qC ?_
    refine L.eqI rfl rfl rfl ?_
    refine L.nil ?_
    refine T.thenN ?_
    refine T.cond rfl (fun h45 => ?_) (fun h45 => ?_)
    · try simp only [decide_eq_true_eq, decide_eq_false_iff_not, Bool.not_eq_true', Bool.not_eq_false', Bool.and_eq_true, Bool.or_eq_true] at h45
      refine T.seq ?_
      have hG := gone_rel (n := n) hI
      refine T.region ?_
      refine L.move rfl rfl ?_
      refine L.move rfl rfl ?_
      refine L.call rfl (evs.cons rfl <| evs.cons rfl <| evs.nil) qD qS (gone_spec) ?_
      rintro _ _ _ ⟨rfl, rfl, rfl⟩
      refine L.norm qA qA ?_
      refine L.assign rfl rfl ?_
      refine L.nil ?_
      refine T.thenN ?_
      refine T.seq ?_
      refine T.region ?_
      refine L.loadA rfl ag47 rfl qN ?_
      refine L.move rfl rfl ?_
      refine L.call rfl (evs.cons rfl <| evs.cons rfl <| evs.nil) qD qS (rgone_spec (tb := tb) (n := n) (by have := hI.len; omega)) ?_
      rintro _ _ _ ⟨ga, gc, rfl, rfl, rfl⟩
      refine L.norm qA qA ?_
      refine L.move rfl rfl ?_
      refine L.extract rfl rfl rfl ?_
      refine L.extract rfl rfl rfl ?_
      refine L.alloc rfl ze47 (fun b11 => ?_)
      refine L.storeA ag47 rfl rfl qL qO qU qW ?_
      refine L.assign rfl rfl ?_
      refine L.nil ?_
      refine T.thenN ?_
      refine T.seq ?_
      refine T.region ?_
      refine L.loadA rfl ag47 rfl qN ?_
      refine L.storeA ag47 rfl rfl qL qO qU qW ?_
      refine L.nil ?_
      refine T.thenN ?_
      refine T.seq ?_
      refine T.seq ?_
      refine T.region ?_
      refine L.move rfl rfl ?_
      refine L.move rfl rfl ?_
      refine L.neqB Try.underlying4 rfl rfl rfl ?_
      refine L.nil ?_
      refine T.thenN ?_
      refine T.condF rfl (by rw [hG.2]; simp) ?_
      refine T.skip ?_
      refine T.thenN ?_
      refine T.exit ?_
      refine T.thenX ?_
      refine T.blkX ?_
      refine T.thenN ?_
      refine T.region ?_
      refine L.move rfl rfl ?_
      refine L.addN rfl rfl rfl (by omega) ?_
      refine L.assign rfl rfl ?_
      refine L.nil ?_
      refine T.thenN ?_
      exact T.back ⟨i + 1, _, _, _, _, ⟨by omega, hG.1⟩, rfl, rfl, rfl, rfl⟩ qI (.cons (t := 8) rfl <| SubK.nil _) (.cons (t := 1) rfl <| .cons (t := 5) rfl <| .cons (t := 6) rfl <| .cons (t := 7) rfl <| SubK.nil _) qD qD qF
    · try simp only [decide_eq_true_eq, decide_eq_false_iff_not, Bool.not_eq_true', Bool.not_eq_false', Bool.and_eq_true, Bool.or_eq_true] at h45
      refine T.skip ?_
      refine T.thenN ?_
      refine T.seq ?_
      have hH := heard_rel (n := n) hI
      refine T.region ?_
      refine L.move rfl rfl ?_
      refine L.move rfl rfl ?_
      refine L.call rfl (evs.cons rfl <| evs.cons rfl <| evs.nil) qD qS (heard_spec) ?_
      rintro _ _ _ ⟨rfl, rfl, rfl⟩
      refine L.norm qA qA ?_
      refine L.move rfl rfl ?_
      refine L.extract rfl rfl rfl ?_
      refine L.extract rfl rfl rfl ?_
      refine L.assign rfl rfl ?_
      refine L.assign rfl rfl ?_
      refine L.nil ?_
      refine T.thenN ?_
      refine T.seq ?_
      refine T.region ?_
      refine L.loadA rfl ag47 rfl qN ?_
      refine L.move rfl rfl ?_
      refine L.call rfl (evs.cons rfl <| evs.cons rfl <| evs.nil) qD qS (rheard_spec (tb := tb) (n := n) (by have := hI.len; omega)) ?_
      rintro _ _ _ ⟨ga, gc, rfl, rfl, rfl⟩
      refine L.norm qA qA ?_
      refine L.move rfl rfl ?_
      refine L.extract rfl rfl rfl ?_
      refine L.extract rfl rfl rfl ?_
      refine L.alloc rfl ze47 (fun b15 => ?_)
      refine L.storeA ag47 rfl rfl qL qO qU qW ?_
      refine L.assign rfl rfl ?_
      refine L.nil ?_
      refine T.thenN ?_
      refine T.seq ?_
      refine T.region ?_
      refine L.loadA rfl ag47 rfl qN ?_
      refine L.storeA ag47 rfl rfl qL qO qU qW ?_
      refine L.nil ?_
      refine T.thenN ?_
      refine T.seq ?_
      refine T.region ?_
      refine L.move rfl rfl ?_
      refine L.move rfl rfl ?_
      refine L.geI rfl rfl rfl ?_
      refine L.neqB Try.underlying4 rfl rfl rfl ?_
      refine L.move rfl rfl ?_
      refine L.known (t := 77) rfl (show _ = Value.bool false from congrArg Value.bool (by rw [hH.2.1]; simp)) ?_
      refine L.guardT (dj := 77) rfl rfl rfl ?_
      refine L.move rfl rfl ?_
      refine L.guardT (dj := 77) rfl rfl rfl ?_
      refine L.move rfl rfl ?_
      refine L.guardT (dj := 77) rfl rfl rfl ?_
      refine L.maxI rfl rfl rfl ?_
      refine L.guardT (dj := 77) rfl rfl rfl ?_
      refine L.neI rfl rfl rfl ?_
      refine L.pickF rfl rfl rfl ?_
      refine L.nil ?_
      refine T.thenN ?_
      refine T.condF rfl (decide_eq_false (by rw [hH.2.2]; simp)) ?_
      refine T.skip ?_
      refine T.blkN ?_
      refine T.thenN ?_
      refine T.region ?_
      refine L.move rfl rfl ?_
      refine L.addN rfl rfl rfl (by omega) ?_
      refine L.assign rfl rfl ?_
      refine L.nil ?_
      refine T.thenN ?_
      exact T.back ⟨i + 1, _, _, _, _, ⟨by omega, hH.1⟩, rfl, rfl, rfl, rfl⟩ qI (.cons (t := 8) rfl <| SubK.nil _) (.cons (t := 1) rfl <| .cons (t := 5) rfl <| .cons (t := 6) rfl <| .cons (t := 7) rfl <| SubK.nil _) qD qD qF
  · try simp only [decide_eq_true_eq, decide_eq_false_iff_not, Bool.not_eq_true', Bool.not_eq_false', Bool.and_eq_true, Bool.or_eq_true] at h32
    have hwf : ¬ (i < len ∧ i < 80) := fun e => by have := hw.2 e; rw [h32] at this; cases this
    refine T.exit ?_
    refine T.thenX ?_
    refine T.thenX ?_
    refine T.blkX ?_
    refine T.thenN ?_
    refine T.seq ?_
    refine T.regionA (clsL [1, 0, 1, 2]) (by kernel_rfl) ?_
    refine A.takeP (i := 0) rfl rfl rfl rfl (by kernel_rfl) (by kernel_rfl) (by kernel_rfl) rfl ?_
    refine L.move rfl rfl ?_
    refine A.took ?_
    refine A.takeP (i := 2) rfl rfl rfl rfl (by kernel_rfl) (by kernel_rfl) (by kernel_rfl) rfl ?_
    refine L.assign rfl rfl ?_
    refine A.took ?_
    refine A.take (i := 1) rfl rfl rfl rfl (by kernel_rfl) (by kernel_rfl) (by kernel_rfl) (by kernel_rfl) rfl qD qF ?_
    refine L.loadA rfl ag47 rfl qN ?_
    refine A.took ?_
    refine A.branch (is := [3]) (by kernel_rfl) (by decide) (Each.cons rfl ?_ <| Each.nil) 
    refine L.storeA ag47 rfl rfl qL qO qU qW ?_
    refine A.backT rfl ?_
    refine A.done (by kernel_rfl) ?_
    refine T.thenN ?_
    refine T.ret ?_
    exact T.retTA rfl ag47 rfl qN rfl ⟨_, _, _, _, _, rfl, ⟨hI.ok, hI.row, hI.kn, hI.wt, by have := hI.len; omega⟩, rfl, rfl⟩ qD qF
set_option maxHeartbeats 1000000 in
theorem plays_law (a0 : Int) (a : Option Addr) (len cap : Nat) (xs : List (Int × Int)) (hx : xs.length = len) (hb : len ≤ 4611686018427387904) (s : List UInt8) (n0 : Int)  : Spec Try.prog 7 [.int .i64 a0, .slice a len cap, S s, .int .i64 n0] [rsl 2 a len cap (xs.map e77)] [] (fun v D' M' => v = .bool true ∧ D' = [] ∧ M' = []) := by
  refine Spec.intro (n := 76) Try.func7 rfl rfl (by decide) (Nat.le_of_ble_eq_true rfl) rfl (fun _ => qA) (fun _ => qA) ?_
  intro σ D M
  have hnl := nmF_len s
  obtain ⟨ow, how⟩ : ∃ ow, ow = (a0.tmod 64 + 64).tmod 64 := ⟨_, rfl⟩
  refine T.seq ?_
  refine T.region ?_
  refine L.assign rfl rfl ?_
  refine L.nil ?_
  refine T.thenN ?_
  refine T.seq ?_
  refine T.seq ?_
  refine T.region ?_
  refine L.call rfl (evs.nil) qD qS (awake_spec) ?_
  rintro _ _ _ ⟨rfl, rfl, rfl⟩
  refine L.norm qA qA ?_
  refine L.notB rfl rfl ?_
  refine L.nil ?_
  refine T.thenN ?_
  refine T.condF rfl rfl ?_
  refine T.skip ?_
  refine T.thenN ?_
  refine T.seq ?_
  refine T.region ?_
  refine L.move rfl rfl ?_
  refine L.move rfl rfl ?_
  refine L.call rfl (evs.cons rfl <| evs.cons rfl <| evs.nil) qD qS (play_spec hx hb how) ?_
  rintro _ _ _ ⟨b, F, tb, la, lc, rfl, hI, rfl, rfl⟩
  refine L.norm qA qA ?_
  have hra := rel_all hI
  have htl := hI.len
  have hal := allF_len (o := ow) (F := F)
  have hok := hI.ok
  have hyl : (srtG (nmF s) (allF ow F)).length = (allF ow F).length := by
    have := (sortR_perm (c := cG (nmF s)) (may := yes) (all := allF ow F) _ (Nat.le_refl _)).length_eq
    rw [List.take_length, List.filter_eq_self.2 (fun _ _ => (rfl : yes _ = true))] at this
    exact this
  obtain ⟨kk, hkk⟩ := nat_of (show 0 ≤ max 0 (min n0 ((allF ow F).length : Int)) by omega)
  have hkk2 : kk ≤ (allF ow F).length := by omega
  refine L.move rfl rfl ?_
  refine L.extract rfl rfl rfl ?_
  refine L.extract rfl rfl rfl ?_
  refine L.alloc rfl ze47 (fun b10 => ?_)
  refine L.assign rfl rfl ?_
  refine L.storeA ag47 rfl rfl qL qO qU qW ?_
  refine L.nil ?_
  refine T.thenN ?_
  refine T.seq ?_
  refine T.seq ?_
  refine T.cutC (fun K' D' M' => ∃ (w : Bool), (w = false) ∧ K' = [(39, .bool w)] ∧ D' = [] ∧ M' = []) (M0 := []) (.cons (t := 2) rfl <| .cons (t := 3) rfl <| .cons (t := 9) rfl <| .cons (t := 10) rfl <| SubK.nil _) qS ?_ ?_
  · skip
    refine T.regionA (clsL [1, 1, 1, 2, 2, 2, 2, 2, 2, 2, 1, 2, 2, 2, 2, 2, 2]) (by kernel_rfl) ?_
    refine A.takeP (i := 0) rfl rfl rfl rfl (by kernel_rfl) (by kernel_rfl) (by kernel_rfl) rfl ?_
    refine L.move rfl rfl ?_
    refine A.took ?_
    refine A.takeP (i := 1) rfl rfl rfl rfl (by kernel_rfl) (by kernel_rfl) (by kernel_rfl) rfl ?_
    refine L.eqlPtr rfl Try.underlying24 rfl rfl ?_
    refine A.took ?_
    refine A.takeP (i := 2) rfl rfl rfl rfl (by kernel_rfl) (by kernel_rfl) (by kernel_rfl) rfl ?_
    refine L.move rfl rfl ?_
    refine A.took ?_
    refine A.branch (is := [3, 5]) (by kernel_rfl) (by decide) (Each.cons rfl ?_ <| Each.cons rfl ?_ <| Each.nil) 
    · skip
      refine L.known (t := 25) rfl (show _ = Value.bool false from rfl) ?_
      refine L.guardT (dj := 25) rfl rfl rfl ?_
      refine L.move rfl rfl ?_
      refine A.backT rfl ?_
      refine A.branch (is := [4, 5]) (by kernel_rfl) (by decide) (Each.cons rfl ?_ <| Each.cons rfl ?_ <| Each.nil) 
      · skip
        refine L.guardT (dj := 25) rfl rfl rfl ?_
        refine L.call rfl (evs.cons rfl <| evs.nil) qD qS (all_spec) ?_
        rintro _ _ _ ⟨al, ac, rfl, rfl, rfl⟩
        refine L.norm qA qA ?_
        refine L.ownRsl qP ?_
        refine A.backT rfl ?_
        refine A.branch (is := [5]) (by kernel_rfl) (by decide) (Each.cons rfl ?_ <| Each.nil) 
        refine L.guardT (dj := 25) rfl rfl rfl ?_
        refine L.loadA rfl ag47 rfl qN ?_
        refine A.backT rfl ?_
        refine A.branch (is := [6]) (by kernel_rfl) (by decide) (Each.cons rfl ?_ <| Each.nil) 
        refine L.guardT (dj := 25) rfl rfl rfl ?_
        refine L.call rfl (evs.cons rfl <| evs.nil) qD qS (rall_spec (tb := tb) (by omega)) ?_
        rintro _ _ _ ⟨ra, rc, rfl, rfl, rfl⟩
        refine L.norm qA qA ?_
        rw [hra]
        refine L.ownRsl qP ?_
        refine A.backT rfl ?_
        refine A.branch (is := [7]) (by kernel_rfl) (by decide) (Each.cons rfl ?_ <| Each.nil) 
        refine L.guardT (dj := 25) rfl rfl rfl ?_
        refine L.callF rfl (evs.cons rfl <| evs.cons rfl <| evs.nil) qD qS (same_spec (xs := allF ow F) (ys := allF ow F) (by omega) (by omega)) (by rintro u D1 M1 ⟨rfl, rfl, rfl⟩; exact ⟨rfl, _, qA, qF⟩) ?_
        refine A.backT rfl ?_
        refine A.branch (is := [8]) (by kernel_rfl) (by decide) (Each.cons rfl ?_ <| Each.nil) 
        refine L.guardT (dj := 25) rfl rfl rfl ?_
        refine L.notB rfl rfl ?_
        refine A.backT rfl ?_
        refine A.branch (is := [9]) (by kernel_rfl) (by decide) (Each.cons rfl ?_ <| Each.nil) 
        refine L.pickF rfl rfl rfl ?_
        refine A.backT rfl ?_
        refine A.takeP (i := 10) rfl rfl rfl rfl (by kernel_rfl) (by kernel_rfl) (by kernel_rfl) rfl ?_
        refine L.move rfl rfl ?_
        refine A.took ?_
        refine A.branch (is := [11, 13]) (by kernel_rfl) (by decide) (Each.cons rfl ?_ <| Each.cons rfl ?_ <| Each.nil) 
        · skip
          refine L.known (t := 33) rfl (show _ = Value.bool false from congrArg Value.bool (by rw [decide_eq_true rfl]; rfl)) ?_
          refine L.guardT (dj := 33) rfl rfl rfl ?_
          refine L.move rfl rfl ?_
          refine A.backT rfl ?_
          refine A.branch (is := [12, 13]) (by kernel_rfl) (by decide) (Each.cons rfl ?_ <| Each.cons rfl ?_ <| Each.nil) 
          · skip
            refine L.guardT (dj := 33) rfl rfl rfl ?_
            refine L.call rfl (evs.cons rfl <| evs.nil) qD qS (own_spec) ?_
            rintro _ _ _ ⟨rfl, rfl, rfl⟩
            refine L.norm qA qA ?_
            refine A.backT rfl ?_
            refine A.branch (is := [13]) (by kernel_rfl) (by decide) (Each.cons rfl ?_ <| Each.nil) 
            refine L.guardT (dj := 33) rfl rfl rfl ?_
            first | refine L.field0 rfl fo47_0 rfl ?_ | refine L.field rfl fo47_0 rfl ?_
            refine A.backT rfl ?_
            refine A.branch (is := [14]) (by kernel_rfl) (by decide) (Each.cons rfl ?_ <| Each.nil) 
            refine L.guardT (dj := 33) rfl rfl rfl ?_
            refine L.load rfl sc3 rfl qC ?_
            refine A.backT rfl ?_
            refine A.branch (is := [15]) (by kernel_rfl) (by decide) (Each.cons rfl ?_ <| Each.nil) 
            refine L.guardT (dj := 33) rfl rfl rfl ?_
            refine L.neI rfl rfl rfl ?_
            refine A.backT rfl ?_
            refine A.branch (is := [16]) (by kernel_rfl) (by decide) (Each.cons rfl ?_ <| Each.nil) 
            refine L.pickF rfl rfl rfl ?_
            refine A.backT rfl ?_
            refine A.done (by kernel_rfl) ?_
            refine T.thenN ?_
            exact T.toJoin ⟨_, (decide_eq_false (by simp)), rfl, rfl, rfl⟩ (.cons (t := 39) rfl <| SubK.nil _) (.cons (t := 2) rfl <| .cons (t := 3) rfl <| .cons (t := 9) rfl <| .cons (t := 10) rfl <| SubK.nil _) qD qD qF
          · skip
            refine L.guardT (dj := 33) rfl rfl rfl ?_
            first | refine L.field0 rfl fo47_0 rfl ?_ | refine L.field rfl fo47_0 rfl ?_
            refine A.backT rfl ?_
            refine A.branch (is := [12, 14]) (by kernel_rfl) (by decide) (Each.cons rfl ?_ <| Each.cons rfl ?_ <| Each.nil) 
            · skip
              refine L.guardT (dj := 33) rfl rfl rfl ?_
              refine L.call rfl (evs.cons rfl <| evs.nil) qD qS (own_spec) ?_
              rintro _ _ _ ⟨rfl, rfl, rfl⟩
              refine L.norm qA qA ?_
              refine A.backT rfl ?_
              refine A.branch (is := [14]) (by kernel_rfl) (by decide) (Each.cons rfl ?_ <| Each.nil) 
              refine L.guardT (dj := 33) rfl rfl rfl ?_
              refine L.load rfl sc3 rfl qC ?_
              refine A.backT rfl ?_
              refine A.branch (is := [15]) (by kernel_rfl) (by decide) (Each.cons rfl ?_ <| Each.nil) 
              refine L.guardT (dj := 33) rfl rfl rfl ?_
              refine L.neI rfl rfl rfl ?_
              refine A.backT rfl ?_
              refine A.branch (is := [16]) (by kernel_rfl) (by decide) (Each.cons rfl ?_ <| Each.nil) 
              refine L.pickF rfl rfl rfl ?_
              refine A.backT rfl ?_
              refine A.done (by kernel_rfl) ?_
              refine T.thenN ?_
              exact T.toJoin ⟨_, (decide_eq_false (by simp)), rfl, rfl, rfl⟩ (.cons (t := 39) rfl <| SubK.nil _) (.cons (t := 2) rfl <| .cons (t := 3) rfl <| .cons (t := 9) rfl <| .cons (t := 10) rfl <| SubK.nil _) qD qD qF
            · skip
              refine L.guardT (dj := 33) rfl rfl rfl ?_
              refine L.load rfl sc3 rfl qC ?_
              refine A.backT rfl ?_
              refine A.branch (is := [12]) (by kernel_rfl) (by decide) (Each.cons rfl ?_ <| Each.nil) 
              refine L.guardT (dj := 33) rfl rfl rfl ?_
              refine L.call rfl (evs.cons rfl <| evs.nil) qD qS (own_spec) ?_
              rintro _ _ _ ⟨rfl, rfl, rfl⟩
              refine L.norm qA qA ?_
              refine A.backT rfl ?_
              refine A.branch (is := [15]) (by kernel_rfl) (by decide) (Each.cons rfl ?_ <| Each.nil) 
              refine L.guardT (dj := 33) rfl rfl rfl ?_
              refine L.neI rfl rfl rfl ?_
              refine A.backT rfl ?_
              refine A.branch (is := [16]) (by kernel_rfl) (by decide) (Each.cons rfl ?_ <| Each.nil) 
              refine L.pickF rfl rfl rfl ?_
              refine A.backT rfl ?_
              refine A.done (by kernel_rfl) ?_
              refine T.thenN ?_
              exact T.toJoin ⟨_, (decide_eq_false (by simp)), rfl, rfl, rfl⟩ (.cons (t := 39) rfl <| SubK.nil _) (.cons (t := 2) rfl <| .cons (t := 3) rfl <| .cons (t := 9) rfl <| .cons (t := 10) rfl <| SubK.nil _) qD qD qF
        · skip
          refine L.known (t := 33) rfl (show _ = Value.bool false from congrArg Value.bool (by rw [decide_eq_true rfl]; rfl)) ?_
          refine L.guardT (dj := 33) rfl rfl rfl ?_
          first | refine L.field0 rfl fo47_0 rfl ?_ | refine L.field rfl fo47_0 rfl ?_
          refine A.backT rfl ?_
          refine A.branch (is := [11, 14]) (by kernel_rfl) (by decide) (Each.cons rfl ?_ <| Each.cons rfl ?_ <| Each.nil) 
          · skip
            refine L.guardT (dj := 33) rfl rfl rfl ?_
            refine L.move rfl rfl ?_
            refine A.backT rfl ?_
            refine A.branch (is := [12, 14]) (by kernel_rfl) (by decide) (Each.cons rfl ?_ <| Each.cons rfl ?_ <| Each.nil) 
            · skip
              refine L.guardT (dj := 33) rfl rfl rfl ?_
              refine L.call rfl (evs.cons rfl <| evs.nil) qD qS (own_spec) ?_
              rintro _ _ _ ⟨rfl, rfl, rfl⟩
              refine L.norm qA qA ?_
              refine A.backT rfl ?_
              refine A.branch (is := [14]) (by kernel_rfl) (by decide) (Each.cons rfl ?_ <| Each.nil) 
              refine L.guardT (dj := 33) rfl rfl rfl ?_
              refine L.load rfl sc3 rfl qC ?_
              refine A.backT rfl ?_
              refine A.branch (is := [15]) (by kernel_rfl) (by decide) (Each.cons rfl ?_ <| Each.nil) 
              refine L.guardT (dj := 33) rfl rfl rfl ?_
              refine L.neI rfl rfl rfl ?_
              refine A.backT rfl ?_
              refine A.branch (is := [16]) (by kernel_rfl) (by decide) (Each.cons rfl ?_ <| Each.nil) 
              refine L.pickF rfl rfl rfl ?_
              refine A.backT rfl ?_
              refine A.done (by kernel_rfl) ?_
              refine T.thenN ?_
              exact T.toJoin ⟨_, (decide_eq_false (by simp)), rfl, rfl, rfl⟩ (.cons (t := 39) rfl <| SubK.nil _) (.cons (t := 2) rfl <| .cons (t := 3) rfl <| .cons (t := 9) rfl <| .cons (t := 10) rfl <| SubK.nil _) qD qD qF
            · skip
              refine L.guardT (dj := 33) rfl rfl rfl ?_
              refine L.load rfl sc3 rfl qC ?_
              refine A.backT rfl ?_
              refine A.branch (is := [12]) (by kernel_rfl) (by decide) (Each.cons rfl ?_ <| Each.nil) 
              refine L.guardT (dj := 33) rfl rfl rfl ?_
              refine L.call rfl (evs.cons rfl <| evs.nil) qD qS (own_spec) ?_
              rintro _ _ _ ⟨rfl, rfl, rfl⟩
              refine L.norm qA qA ?_
              refine A.backT rfl ?_
              refine A.branch (is := [15]) (by kernel_rfl) (by decide) (Each.cons rfl ?_ <| Each.nil) 
              refine L.guardT (dj := 33) rfl rfl rfl ?_
              refine L.neI rfl rfl rfl ?_
              refine A.backT rfl ?_
              refine A.branch (is := [16]) (by kernel_rfl) (by decide) (Each.cons rfl ?_ <| Each.nil) 
              refine L.pickF rfl rfl rfl ?_
              refine A.backT rfl ?_
              refine A.done (by kernel_rfl) ?_
              refine T.thenN ?_
              exact T.toJoin ⟨_, (decide_eq_false (by simp)), rfl, rfl, rfl⟩ (.cons (t := 39) rfl <| SubK.nil _) (.cons (t := 2) rfl <| .cons (t := 3) rfl <| .cons (t := 9) rfl <| .cons (t := 10) rfl <| SubK.nil _) qD qD qF
          · skip
            refine L.guardT (dj := 33) rfl rfl rfl ?_
            refine L.load rfl sc3 rfl qC ?_
            refine A.backT rfl ?_
            refine A.branch (is := [11]) (by kernel_rfl) (by decide) (Each.cons rfl ?_ <| Each.nil) 
            refine L.guardT (dj := 33) rfl rfl rfl ?_
            refine L.move rfl rfl ?_
            refine A.backT rfl ?_
            refine A.branch (is := [12]) (by kernel_rfl) (by decide) (Each.cons rfl ?_ <| Each.nil) 
            refine L.guardT (dj := 33) rfl rfl rfl ?_
            refine L.call rfl (evs.cons rfl <| evs.nil) qD qS (own_spec) ?_
            rintro _ _ _ ⟨rfl, rfl, rfl⟩
            refine L.norm qA qA ?_
            refine A.backT rfl ?_
            refine A.branch (is := [15]) (by kernel_rfl) (by decide) (Each.cons rfl ?_ <| Each.nil) 
            refine L.guardT (dj := 33) rfl rfl rfl ?_
            refine L.neI rfl rfl rfl ?_
            refine A.backT rfl ?_
            refine A.branch (is := [16]) (by kernel_rfl) (by decide) (Each.cons rfl ?_ <| Each.nil) 
            refine L.pickF rfl rfl rfl ?_
            refine A.backT rfl ?_
            refine A.done (by kernel_rfl) ?_
            refine T.thenN ?_
            exact T.toJoin ⟨_, (decide_eq_false (by simp)), rfl, rfl, rfl⟩ (.cons (t := 39) rfl <| SubK.nil _) (.cons (t := 2) rfl <| .cons (t := 3) rfl <| .cons (t := 9) rfl <| .cons (t := 10) rfl <| SubK.nil _) qD qD qF
      · skip
        refine L.guardT (dj := 25) rfl rfl rfl ?_
        refine L.loadA rfl ag47 rfl qN ?_
        refine A.backT rfl ?_
        refine A.branch (is := [4]) (by kernel_rfl) (by decide) (Each.cons rfl ?_ <| Each.nil) 
        refine L.guardT (dj := 25) rfl rfl rfl ?_
        refine L.call rfl (evs.cons rfl <| evs.nil) qD qS (all_spec) ?_
        rintro _ _ _ ⟨al, ac, rfl, rfl, rfl⟩
        refine L.norm qA qA ?_
        refine L.ownRsl qP ?_
        refine A.backT rfl ?_
        refine A.branch (is := [6]) (by kernel_rfl) (by decide) (Each.cons rfl ?_ <| Each.nil) 
        refine L.guardT (dj := 25) rfl rfl rfl ?_
        refine L.call rfl (evs.cons rfl <| evs.nil) qD qS (rall_spec (tb := tb) (by omega)) ?_
        rintro _ _ _ ⟨ra, rc, rfl, rfl, rfl⟩
        refine L.norm qA qA ?_
        rw [hra]
        refine L.ownRsl qP ?_
        refine A.backT rfl ?_
        refine A.branch (is := [7]) (by kernel_rfl) (by decide) (Each.cons rfl ?_ <| Each.nil) 
        refine L.guardT (dj := 25) rfl rfl rfl ?_
        refine L.callF rfl (evs.cons rfl <| evs.cons rfl <| evs.nil) qD qS (same_spec (xs := allF ow F) (ys := allF ow F) (by omega) (by omega)) (by rintro u D1 M1 ⟨rfl, rfl, rfl⟩; exact ⟨rfl, _, qA, qF⟩) ?_
        refine A.backT rfl ?_
        refine A.branch (is := [8]) (by kernel_rfl) (by decide) (Each.cons rfl ?_ <| Each.nil) 
        refine L.guardT (dj := 25) rfl rfl rfl ?_
        refine L.notB rfl rfl ?_
        refine A.backT rfl ?_
        refine A.branch (is := [9]) (by kernel_rfl) (by decide) (Each.cons rfl ?_ <| Each.nil) 
        refine L.pickF rfl rfl rfl ?_
        refine A.backT rfl ?_
        refine A.takeP (i := 10) rfl rfl rfl rfl (by kernel_rfl) (by kernel_rfl) (by kernel_rfl) rfl ?_
        refine L.move rfl rfl ?_
        refine A.took ?_
        refine A.branch (is := [11, 13]) (by kernel_rfl) (by decide) (Each.cons rfl ?_ <| Each.cons rfl ?_ <| Each.nil) 
        · skip
          refine L.known (t := 33) rfl (show _ = Value.bool false from congrArg Value.bool (by rw [decide_eq_true rfl]; rfl)) ?_
          refine L.guardT (dj := 33) rfl rfl rfl ?_
          refine L.move rfl rfl ?_
          refine A.backT rfl ?_
          refine A.branch (is := [12, 13]) (by kernel_rfl) (by decide) (Each.cons rfl ?_ <| Each.cons rfl ?_ <| Each.nil) 
          · skip
            refine L.guardT (dj := 33) rfl rfl rfl ?_
            refine L.call rfl (evs.cons rfl <| evs.nil) qD qS (own_spec) ?_
            rintro _ _ _ ⟨rfl, rfl, rfl⟩
            refine L.norm qA qA ?_
            refine A.backT rfl ?_
            refine A.branch (is := [13]) (by kernel_rfl) (by decide) (Each.cons rfl ?_ <| Each.nil) 
            refine L.guardT (dj := 33) rfl rfl rfl ?_
            first | refine L.field0 rfl fo47_0 rfl ?_ | refine L.field rfl fo47_0 rfl ?_
            refine A.backT rfl ?_
            refine A.branch (is := [14]) (by kernel_rfl) (by decide) (Each.cons rfl ?_ <| Each.nil) 
            refine L.guardT (dj := 33) rfl rfl rfl ?_
            refine L.load rfl sc3 rfl qC ?_
            refine A.backT rfl ?_
            refine A.branch (is := [15]) (by kernel_rfl) (by decide) (Each.cons rfl ?_ <| Each.nil) 
            refine L.guardT (dj := 33) rfl rfl rfl ?_
            refine L.neI rfl rfl rfl ?_
            refine A.backT rfl ?_
            refine A.branch (is := [16]) (by kernel_rfl) (by decide) (Each.cons rfl ?_ <| Each.nil) 
            refine L.pickF rfl rfl rfl ?_
            refine A.backT rfl ?_
            refine A.done (by kernel_rfl) ?_
            refine T.thenN ?_
            exact T.toJoin ⟨_, (decide_eq_false (by simp)), rfl, rfl, rfl⟩ (.cons (t := 39) rfl <| SubK.nil _) (.cons (t := 2) rfl <| .cons (t := 3) rfl <| .cons (t := 9) rfl <| .cons (t := 10) rfl <| SubK.nil _) qD qD qF
          · skip
            refine L.guardT (dj := 33) rfl rfl rfl ?_
            first | refine L.field0 rfl fo47_0 rfl ?_ | refine L.field rfl fo47_0 rfl ?_
            refine A.backT rfl ?_
            refine A.branch (is := [12, 14]) (by kernel_rfl) (by decide) (Each.cons rfl ?_ <| Each.cons rfl ?_ <| Each.nil) 
            · skip
              refine L.guardT (dj := 33) rfl rfl rfl ?_
              refine L.call rfl (evs.cons rfl <| evs.nil) qD qS (own_spec) ?_
              rintro _ _ _ ⟨rfl, rfl, rfl⟩
              refine L.norm qA qA ?_
              refine A.backT rfl ?_
              refine A.branch (is := [14]) (by kernel_rfl) (by decide) (Each.cons rfl ?_ <| Each.nil) 
              refine L.guardT (dj := 33) rfl rfl rfl ?_
              refine L.load rfl sc3 rfl qC ?_
              refine A.backT rfl ?_
              refine A.branch (is := [15]) (by kernel_rfl) (by decide) (Each.cons rfl ?_ <| Each.nil) 
              refine L.guardT (dj := 33) rfl rfl rfl ?_
              refine L.neI rfl rfl rfl ?_
              refine A.backT rfl ?_
              refine A.branch (is := [16]) (by kernel_rfl) (by decide) (Each.cons rfl ?_ <| Each.nil) 
              refine L.pickF rfl rfl rfl ?_
              refine A.backT rfl ?_
              refine A.done (by kernel_rfl) ?_
              refine T.thenN ?_
              exact T.toJoin ⟨_, (decide_eq_false (by simp)), rfl, rfl, rfl⟩ (.cons (t := 39) rfl <| SubK.nil _) (.cons (t := 2) rfl <| .cons (t := 3) rfl <| .cons (t := 9) rfl <| .cons (t := 10) rfl <| SubK.nil _) qD qD qF
            · skip
              refine L.guardT (dj := 33) rfl rfl rfl ?_
              refine L.load rfl sc3 rfl qC ?_
              refine A.backT rfl ?_
              refine A.branch (is := [12]) (by kernel_rfl) (by decide) (Each.cons rfl ?_ <| Each.nil) 
              refine L.guardT (dj := 33) rfl rfl rfl ?_
              refine L.call rfl (evs.cons rfl <| evs.nil) qD qS (own_spec) ?_
              rintro _ _ _ ⟨rfl, rfl, rfl⟩
              refine L.norm qA qA ?_
              refine A.backT rfl ?_
              refine A.branch (is := [15]) (by kernel_rfl) (by decide) (Each.cons rfl ?_ <| Each.nil) 
              refine L.guardT (dj := 33) rfl rfl rfl ?_
              refine L.neI rfl rfl rfl ?_
              refine A.backT rfl ?_
              refine A.branch (is := [16]) (by kernel_rfl) (by decide) (Each.cons rfl ?_ <| Each.nil) 
              refine L.pickF rfl rfl rfl ?_
              refine A.backT rfl ?_
              refine A.done (by kernel_rfl) ?_
              refine T.thenN ?_
              exact T.toJoin ⟨_, (decide_eq_false (by simp)), rfl, rfl, rfl⟩ (.cons (t := 39) rfl <| SubK.nil _) (.cons (t := 2) rfl <| .cons (t := 3) rfl <| .cons (t := 9) rfl <| .cons (t := 10) rfl <| SubK.nil _) qD qD qF
        · skip
          refine L.known (t := 33) rfl (show _ = Value.bool false from congrArg Value.bool (by rw [decide_eq_true rfl]; rfl)) ?_
          refine L.guardT (dj := 33) rfl rfl rfl ?_
          first | refine L.field0 rfl fo47_0 rfl ?_ | refine L.field rfl fo47_0 rfl ?_
          refine A.backT rfl ?_
          refine A.branch (is := [11, 14]) (by kernel_rfl) (by decide) (Each.cons rfl ?_ <| Each.cons rfl ?_ <| Each.nil) 
          · skip
            refine L.guardT (dj := 33) rfl rfl rfl ?_
            refine L.move rfl rfl ?_
            refine A.backT rfl ?_
            refine A.branch (is := [12, 14]) (by kernel_rfl) (by decide) (Each.cons rfl ?_ <| Each.cons rfl ?_ <| Each.nil) 
            · skip
              refine L.guardT (dj := 33) rfl rfl rfl ?_
              refine L.call rfl (evs.cons rfl <| evs.nil) qD qS (own_spec) ?_
              rintro _ _ _ ⟨rfl, rfl, rfl⟩
              refine L.norm qA qA ?_
              refine A.backT rfl ?_
              refine A.branch (is := [14]) (by kernel_rfl) (by decide) (Each.cons rfl ?_ <| Each.nil) 
              refine L.guardT (dj := 33) rfl rfl rfl ?_
              refine L.load rfl sc3 rfl qC ?_
              refine A.backT rfl ?_
              refine A.branch (is := [15]) (by kernel_rfl) (by decide) (Each.cons rfl ?_ <| Each.nil) 
              refine L.guardT (dj := 33) rfl rfl rfl ?_
              refine L.neI rfl rfl rfl ?_
              refine A.backT rfl ?_
              refine A.branch (is := [16]) (by kernel_rfl) (by decide) (Each.cons rfl ?_ <| Each.nil) 
              refine L.pickF rfl rfl rfl ?_
              refine A.backT rfl ?_
              refine A.done (by kernel_rfl) ?_
              refine T.thenN ?_
              exact T.toJoin ⟨_, (decide_eq_false (by simp)), rfl, rfl, rfl⟩ (.cons (t := 39) rfl <| SubK.nil _) (.cons (t := 2) rfl <| .cons (t := 3) rfl <| .cons (t := 9) rfl <| .cons (t := 10) rfl <| SubK.nil _) qD qD qF
            · skip
              refine L.guardT (dj := 33) rfl rfl rfl ?_
              refine L.load rfl sc3 rfl qC ?_
              refine A.backT rfl ?_
              refine A.branch (is := [12]) (by kernel_rfl) (by decide) (Each.cons rfl ?_ <| Each.nil) 
              refine L.guardT (dj := 33) rfl rfl rfl ?_
              refine L.call rfl (evs.cons rfl <| evs.nil) qD qS (own_spec) ?_
              rintro _ _ _ ⟨rfl, rfl, rfl⟩
              refine L.norm qA qA ?_
              refine A.backT rfl ?_
              refine A.branch (is := [15]) (by kernel_rfl) (by decide) (Each.cons rfl ?_ <| Each.nil) 
              refine L.guardT (dj := 33) rfl rfl rfl ?_
              refine L.neI rfl rfl rfl ?_
              refine A.backT rfl ?_
              refine A.branch (is := [16]) (by kernel_rfl) (by decide) (Each.cons rfl ?_ <| Each.nil) 
              refine L.pickF rfl rfl rfl ?_
              refine A.backT rfl ?_
              refine A.done (by kernel_rfl) ?_
              refine T.thenN ?_
              exact T.toJoin ⟨_, (decide_eq_false (by simp)), rfl, rfl, rfl⟩ (.cons (t := 39) rfl <| SubK.nil _) (.cons (t := 2) rfl <| .cons (t := 3) rfl <| .cons (t := 9) rfl <| .cons (t := 10) rfl <| SubK.nil _) qD qD qF
          · skip
            refine L.guardT (dj := 33) rfl rfl rfl ?_
            refine L.load rfl sc3 rfl qC ?_
            refine A.backT rfl ?_
            refine A.branch (is := [11]) (by kernel_rfl) (by decide) (Each.cons rfl ?_ <| Each.nil) 
            refine L.guardT (dj := 33) rfl rfl rfl ?_
            refine L.move rfl rfl ?_
            refine A.backT rfl ?_
            refine A.branch (is := [12]) (by kernel_rfl) (by decide) (Each.cons rfl ?_ <| Each.nil) 
            refine L.guardT (dj := 33) rfl rfl rfl ?_
            refine L.call rfl (evs.cons rfl <| evs.nil) qD qS (own_spec) ?_
            rintro _ _ _ ⟨rfl, rfl, rfl⟩
            refine L.norm qA qA ?_
            refine A.backT rfl ?_
            refine A.branch (is := [15]) (by kernel_rfl) (by decide) (Each.cons rfl ?_ <| Each.nil) 
            refine L.guardT (dj := 33) rfl rfl rfl ?_
            refine L.neI rfl rfl rfl ?_
            refine A.backT rfl ?_
            refine A.branch (is := [16]) (by kernel_rfl) (by decide) (Each.cons rfl ?_ <| Each.nil) 
            refine L.pickF rfl rfl rfl ?_
            refine A.backT rfl ?_
            refine A.done (by kernel_rfl) ?_
            refine T.thenN ?_
            exact T.toJoin ⟨_, (decide_eq_false (by simp)), rfl, rfl, rfl⟩ (.cons (t := 39) rfl <| SubK.nil _) (.cons (t := 2) rfl <| .cons (t := 3) rfl <| .cons (t := 9) rfl <| .cons (t := 10) rfl <| SubK.nil _) qD qD qF
    · skip
      refine L.known (t := 25) rfl (show _ = Value.bool false from rfl) ?_
      refine L.guardT (dj := 25) rfl rfl rfl ?_
      refine L.loadA rfl ag47 rfl qN ?_
      refine A.backT rfl ?_
      refine A.branch (is := [3]) (by kernel_rfl) (by decide) (Each.cons rfl ?_ <| Each.nil) 
      refine L.guardT (dj := 25) rfl rfl rfl ?_
      refine L.move rfl rfl ?_
      refine A.backT rfl ?_
      refine A.branch (is := [4]) (by kernel_rfl) (by decide) (Each.cons rfl ?_ <| Each.nil) 
      refine L.guardT (dj := 25) rfl rfl rfl ?_
      refine L.call rfl (evs.cons rfl <| evs.nil) qD qS (all_spec) ?_
      rintro _ _ _ ⟨al, ac, rfl, rfl, rfl⟩
      refine L.norm qA qA ?_
      refine L.ownRsl qP ?_
      refine A.backT rfl ?_
      refine A.branch (is := [6]) (by kernel_rfl) (by decide) (Each.cons rfl ?_ <| Each.nil) 
      refine L.guardT (dj := 25) rfl rfl rfl ?_
      refine L.call rfl (evs.cons rfl <| evs.nil) qD qS (rall_spec (tb := tb) (by omega)) ?_
      rintro _ _ _ ⟨ra, rc, rfl, rfl, rfl⟩
      refine L.norm qA qA ?_
      rw [hra]
      refine L.ownRsl qP ?_
      refine A.backT rfl ?_
      refine A.branch (is := [7]) (by kernel_rfl) (by decide) (Each.cons rfl ?_ <| Each.nil) 
      refine L.guardT (dj := 25) rfl rfl rfl ?_
      refine L.callF rfl (evs.cons rfl <| evs.cons rfl <| evs.nil) qD qS (same_spec (xs := allF ow F) (ys := allF ow F) (by omega) (by omega)) (by rintro u D1 M1 ⟨rfl, rfl, rfl⟩; exact ⟨rfl, _, qA, qF⟩) ?_
      refine A.backT rfl ?_
      refine A.branch (is := [8]) (by kernel_rfl) (by decide) (Each.cons rfl ?_ <| Each.nil) 
      refine L.guardT (dj := 25) rfl rfl rfl ?_
      refine L.notB rfl rfl ?_
      refine A.backT rfl ?_
      refine A.branch (is := [9]) (by kernel_rfl) (by decide) (Each.cons rfl ?_ <| Each.nil) 
      refine L.pickF rfl rfl rfl ?_
      refine A.backT rfl ?_
      refine A.takeP (i := 10) rfl rfl rfl rfl (by kernel_rfl) (by kernel_rfl) (by kernel_rfl) rfl ?_
      refine L.move rfl rfl ?_
      refine A.took ?_
      refine A.branch (is := [11, 13]) (by kernel_rfl) (by decide) (Each.cons rfl ?_ <| Each.cons rfl ?_ <| Each.nil) 
      · skip
        refine L.known (t := 33) rfl (show _ = Value.bool false from congrArg Value.bool (by rw [decide_eq_true rfl]; rfl)) ?_
        refine L.guardT (dj := 33) rfl rfl rfl ?_
        refine L.move rfl rfl ?_
        refine A.backT rfl ?_
        refine A.branch (is := [12, 13]) (by kernel_rfl) (by decide) (Each.cons rfl ?_ <| Each.cons rfl ?_ <| Each.nil) 
        · skip
          refine L.guardT (dj := 33) rfl rfl rfl ?_
          refine L.call rfl (evs.cons rfl <| evs.nil) qD qS (own_spec) ?_
          rintro _ _ _ ⟨rfl, rfl, rfl⟩
          refine L.norm qA qA ?_
          refine A.backT rfl ?_
          refine A.branch (is := [13]) (by kernel_rfl) (by decide) (Each.cons rfl ?_ <| Each.nil) 
          refine L.guardT (dj := 33) rfl rfl rfl ?_
          first | refine L.field0 rfl fo47_0 rfl ?_ | refine L.field rfl fo47_0 rfl ?_
          refine A.backT rfl ?_
          refine A.branch (is := [14]) (by kernel_rfl) (by decide) (Each.cons rfl ?_ <| Each.nil) 
          refine L.guardT (dj := 33) rfl rfl rfl ?_
          refine L.load rfl sc3 rfl qC ?_
          refine A.backT rfl ?_
          refine A.branch (is := [15]) (by kernel_rfl) (by decide) (Each.cons rfl ?_ <| Each.nil) 
          refine L.guardT (dj := 33) rfl rfl rfl ?_
          refine L.neI rfl rfl rfl ?_
          refine A.backT rfl ?_
          refine A.branch (is := [16]) (by kernel_rfl) (by decide) (Each.cons rfl ?_ <| Each.nil) 
          refine L.pickF rfl rfl rfl ?_
          refine A.backT rfl ?_
          refine A.done (by kernel_rfl) ?_
          refine T.thenN ?_
          exact T.toJoin ⟨_, (decide_eq_false (by simp)), rfl, rfl, rfl⟩ (.cons (t := 39) rfl <| SubK.nil _) (.cons (t := 2) rfl <| .cons (t := 3) rfl <| .cons (t := 9) rfl <| .cons (t := 10) rfl <| SubK.nil _) qD qD qF
        · skip
          refine L.guardT (dj := 33) rfl rfl rfl ?_
          first | refine L.field0 rfl fo47_0 rfl ?_ | refine L.field rfl fo47_0 rfl ?_
          refine A.backT rfl ?_
          refine A.branch (is := [12, 14]) (by kernel_rfl) (by decide) (Each.cons rfl ?_ <| Each.cons rfl ?_ <| Each.nil) 
          · skip
            refine L.guardT (dj := 33) rfl rfl rfl ?_
            refine L.call rfl (evs.cons rfl <| evs.nil) qD qS (own_spec) ?_
            rintro _ _ _ ⟨rfl, rfl, rfl⟩
            refine L.norm qA qA ?_
            refine A.backT rfl ?_
            refine A.branch (is := [14]) (by kernel_rfl) (by decide) (Each.cons rfl ?_ <| Each.nil) 
            refine L.guardT (dj := 33) rfl rfl rfl ?_
            refine L.load rfl sc3 rfl qC ?_
            refine A.backT rfl ?_
            refine A.branch (is := [15]) (by kernel_rfl) (by decide) (Each.cons rfl ?_ <| Each.nil) 
            refine L.guardT (dj := 33) rfl rfl rfl ?_
            refine L.neI rfl rfl rfl ?_
            refine A.backT rfl ?_
            refine A.branch (is := [16]) (by kernel_rfl) (by decide) (Each.cons rfl ?_ <| Each.nil) 
            refine L.pickF rfl rfl rfl ?_
            refine A.backT rfl ?_
            refine A.done (by kernel_rfl) ?_
            refine T.thenN ?_
            exact T.toJoin ⟨_, (decide_eq_false (by simp)), rfl, rfl, rfl⟩ (.cons (t := 39) rfl <| SubK.nil _) (.cons (t := 2) rfl <| .cons (t := 3) rfl <| .cons (t := 9) rfl <| .cons (t := 10) rfl <| SubK.nil _) qD qD qF
          · skip
            refine L.guardT (dj := 33) rfl rfl rfl ?_
            refine L.load rfl sc3 rfl qC ?_
            refine A.backT rfl ?_
            refine A.branch (is := [12]) (by kernel_rfl) (by decide) (Each.cons rfl ?_ <| Each.nil) 
            refine L.guardT (dj := 33) rfl rfl rfl ?_
            refine L.call rfl (evs.cons rfl <| evs.nil) qD qS (own_spec) ?_
            rintro _ _ _ ⟨rfl, rfl, rfl⟩
            refine L.norm qA qA ?_
            refine A.backT rfl ?_
            refine A.branch (is := [15]) (by kernel_rfl) (by decide) (Each.cons rfl ?_ <| Each.nil) 
            refine L.guardT (dj := 33) rfl rfl rfl ?_
            refine L.neI rfl rfl rfl ?_
            refine A.backT rfl ?_
            refine A.branch (is := [16]) (by kernel_rfl) (by decide) (Each.cons rfl ?_ <| Each.nil) 
            refine L.pickF rfl rfl rfl ?_
            refine A.backT rfl ?_
            refine A.done (by kernel_rfl) ?_
            refine T.thenN ?_
            exact T.toJoin ⟨_, (decide_eq_false (by simp)), rfl, rfl, rfl⟩ (.cons (t := 39) rfl <| SubK.nil _) (.cons (t := 2) rfl <| .cons (t := 3) rfl <| .cons (t := 9) rfl <| .cons (t := 10) rfl <| SubK.nil _) qD qD qF
      · skip
        refine L.known (t := 33) rfl (show _ = Value.bool false from congrArg Value.bool (by rw [decide_eq_true rfl]; rfl)) ?_
        refine L.guardT (dj := 33) rfl rfl rfl ?_
        first | refine L.field0 rfl fo47_0 rfl ?_ | refine L.field rfl fo47_0 rfl ?_
        refine A.backT rfl ?_
        refine A.branch (is := [11, 14]) (by kernel_rfl) (by decide) (Each.cons rfl ?_ <| Each.cons rfl ?_ <| Each.nil) 
        · skip
          refine L.guardT (dj := 33) rfl rfl rfl ?_
          refine L.move rfl rfl ?_
          refine A.backT rfl ?_
          refine A.branch (is := [12, 14]) (by kernel_rfl) (by decide) (Each.cons rfl ?_ <| Each.cons rfl ?_ <| Each.nil) 
          · skip
            refine L.guardT (dj := 33) rfl rfl rfl ?_
            refine L.call rfl (evs.cons rfl <| evs.nil) qD qS (own_spec) ?_
            rintro _ _ _ ⟨rfl, rfl, rfl⟩
            refine L.norm qA qA ?_
            refine A.backT rfl ?_
            refine A.branch (is := [14]) (by kernel_rfl) (by decide) (Each.cons rfl ?_ <| Each.nil) 
            refine L.guardT (dj := 33) rfl rfl rfl ?_
            refine L.load rfl sc3 rfl qC ?_
            refine A.backT rfl ?_
            refine A.branch (is := [15]) (by kernel_rfl) (by decide) (Each.cons rfl ?_ <| Each.nil) 
            refine L.guardT (dj := 33) rfl rfl rfl ?_
            refine L.neI rfl rfl rfl ?_
            refine A.backT rfl ?_
            refine A.branch (is := [16]) (by kernel_rfl) (by decide) (Each.cons rfl ?_ <| Each.nil) 
            refine L.pickF rfl rfl rfl ?_
            refine A.backT rfl ?_
            refine A.done (by kernel_rfl) ?_
            refine T.thenN ?_
            exact T.toJoin ⟨_, (decide_eq_false (by simp)), rfl, rfl, rfl⟩ (.cons (t := 39) rfl <| SubK.nil _) (.cons (t := 2) rfl <| .cons (t := 3) rfl <| .cons (t := 9) rfl <| .cons (t := 10) rfl <| SubK.nil _) qD qD qF
          · skip
            refine L.guardT (dj := 33) rfl rfl rfl ?_
            refine L.load rfl sc3 rfl qC ?_
            refine A.backT rfl ?_
            refine A.branch (is := [12]) (by kernel_rfl) (by decide) (Each.cons rfl ?_ <| Each.nil) 
            refine L.guardT (dj := 33) rfl rfl rfl ?_
            refine L.call rfl (evs.cons rfl <| evs.nil) qD qS (own_spec) ?_
            rintro _ _ _ ⟨rfl, rfl, rfl⟩
            refine L.norm qA qA ?_
            refine A.backT rfl ?_
            refine A.branch (is := [15]) (by kernel_rfl) (by decide) (Each.cons rfl ?_ <| Each.nil) 
            refine L.guardT (dj := 33) rfl rfl rfl ?_
            refine L.neI rfl rfl rfl ?_
            refine A.backT rfl ?_
            refine A.branch (is := [16]) (by kernel_rfl) (by decide) (Each.cons rfl ?_ <| Each.nil) 
            refine L.pickF rfl rfl rfl ?_
            refine A.backT rfl ?_
            refine A.done (by kernel_rfl) ?_
            refine T.thenN ?_
            exact T.toJoin ⟨_, (decide_eq_false (by simp)), rfl, rfl, rfl⟩ (.cons (t := 39) rfl <| SubK.nil _) (.cons (t := 2) rfl <| .cons (t := 3) rfl <| .cons (t := 9) rfl <| .cons (t := 10) rfl <| SubK.nil _) qD qD qF
        · skip
          refine L.guardT (dj := 33) rfl rfl rfl ?_
          refine L.load rfl sc3 rfl qC ?_
          refine A.backT rfl ?_
          refine A.branch (is := [11]) (by kernel_rfl) (by decide) (Each.cons rfl ?_ <| Each.nil) 
          refine L.guardT (dj := 33) rfl rfl rfl ?_
          refine L.move rfl rfl ?_
          refine A.backT rfl ?_
          refine A.branch (is := [12]) (by kernel_rfl) (by decide) (Each.cons rfl ?_ <| Each.nil) 
          refine L.guardT (dj := 33) rfl rfl rfl ?_
          refine L.call rfl (evs.cons rfl <| evs.nil) qD qS (own_spec) ?_
          rintro _ _ _ ⟨rfl, rfl, rfl⟩
          refine L.norm qA qA ?_
          refine A.backT rfl ?_
          refine A.branch (is := [15]) (by kernel_rfl) (by decide) (Each.cons rfl ?_ <| Each.nil) 
          refine L.guardT (dj := 33) rfl rfl rfl ?_
          refine L.neI rfl rfl rfl ?_
          refine A.backT rfl ?_
          refine A.branch (is := [16]) (by kernel_rfl) (by decide) (Each.cons rfl ?_ <| Each.nil) 
          refine L.pickF rfl rfl rfl ?_
          refine A.backT rfl ?_
          refine A.done (by kernel_rfl) ?_
          refine T.thenN ?_
          exact T.toJoin ⟨_, (decide_eq_false (by simp)), rfl, rfl, rfl⟩ (.cons (t := 39) rfl <| SubK.nil _) (.cons (t := 2) rfl <| .cons (t := 3) rfl <| .cons (t := 9) rfl <| .cons (t := 10) rfl <| SubK.nil _) qD qD qF
  rintro _ _ _ ⟨w, hw, rfl, rfl, rfl⟩
  refine T.norm3 qA qA qA ?_
  subst hw
  refine T.thenN ?_
  refine T.condF rfl rfl ?_
  refine T.skip ?_
  refine T.thenN ?_
  refine T.seq ?_
  refine T.region ?_
  refine L.move rfl rfl ?_
  refine L.call rfl (evs.cons rfl <| evs.nil) qD qS (name_spec) ?_
  rintro _ _ _ ⟨rfl, rfl, rfl⟩
  refine L.norm qA qA ?_
  refine L.alloc rfl ze34 (fun b11 => ?_)
  refine L.storeA ag34 rfl rfl qL qO qU qW ?_
  refine L.nil ?_
  refine T.thenN ?_
  refine T.seq ?_
  refine T.cutC (fun K' D' M' => ∃ (wa : Option Addr) (wc : Nat), K' = [(12, .slice wa (srtG (nmF s) (allF ow F)).length wc)] ∧ D' = [] ∧ M' = [own 1 3 wa (srtG (nmF s) (allF ow F)).length wc ((srtG (nmF s) (allF ow F)).map e3)]) (M0 := []) (.cons (t := 3) rfl <| .cons (t := 9) rfl <| .cons (t := 10) rfl <| .cons (t := 11) rfl <| SubK.nil _) qS ?_ ?_
  · skip
    refine T.regionA (clsL [0, 0, 0, 2, 2, 1]) (by kernel_rfl) ?_
    refine A.take (i := 0) rfl rfl rfl rfl (by kernel_rfl) (by kernel_rfl) (by kernel_rfl) (by kernel_rfl) rfl qD qF ?_
    refine L.loadA rfl ag34 rfl qN ?_
    refine A.took ?_
    refine A.take (i := 2) rfl rfl rfl rfl (by kernel_rfl) (by kernel_rfl) (by kernel_rfl) (by kernel_rfl) rfl qD qF ?_
    refine L.loadA rfl ag47 rfl qN ?_
    refine A.took ?_
    refine A.branch (is := [1]) (by kernel_rfl) (by decide) (Each.cons rfl ?_ <| Each.nil) 
    refine L.call rfl (evs.cons rfl <| evs.nil) qD qS (obytes_spec (l := nmF s) hnl) ?_
    rintro _ _ _ ⟨rfl, rfl, rfl⟩
    refine L.norm qA qA ?_
    refine A.back rfl qD qF ?_
    refine A.branch (is := [3]) (by kernel_rfl) (by decide) (Each.cons rfl ?_ <| Each.nil) 
    refine L.call rfl (evs.cons rfl <| evs.nil) qD qS (rall_spec (tb := tb) (by omega)) ?_
    rintro _ _ _ ⟨ra, rc, rfl, rfl, rfl⟩
    refine L.norm qA qA ?_
    rw [hra]
    refine L.ownRsl qP ?_
    refine A.backT rfl ?_
    refine A.branch (is := [4]) (by kernel_rfl) (by decide) (Each.cons rfl ?_ <| Each.nil) 
    refine L.call rfl (evs.cons rfl <| evs.cons rfl <| evs.nil) qD qS (rsort_spec (xs := allF ow F) hnl (by omega)) ?_
    rintro _ _ _ ⟨wa, wc, rfl, rfl, rfl⟩
    refine L.norm qA qA ?_
    refine A.backT rfl ?_
    refine A.takeP (i := 5) rfl rfl rfl rfl (by kernel_rfl) (by kernel_rfl) (by kernel_rfl) rfl ?_
    refine L.assign rfl rfl ?_
    refine A.took ?_
    refine A.done (by kernel_rfl) ?_
    refine T.thenN ?_
    exact T.toJoin ⟨_, _, rfl, rfl, rfl⟩ (.cons (t := 12) rfl <| SubK.nil _) (.cons (t := 3) rfl <| .cons (t := 9) rfl <| .cons (t := 10) rfl <| .cons (t := 11) rfl <| SubK.nil _) qD qD qF
  rintro _ _ _ ⟨wa, wc, rfl, rfl, rfl⟩
  refine T.norm3 qA qA qA ?_
  refine T.thenN ?_
  refine T.seq ?_
  refine T.ownRsl (rows := (srtG (nmF s) (allF ow F)).map e3) qP ?_
  refine T.rslLen2 (rows := (srtG (nmF s) (allF ow F)).map e3) qM (fun hlx hcx => ?_)
  refine T.region ?_
  refine L.move rfl rfl ?_
  refine L.move rfl rfl ?_
  refine L.move rfl rfl ?_
  refine L.lenSl rfl Try.underlying22 rfl ?_
  refine L.minI rfl rfl rfl ?_
  refine L.maxI rfl rfl rfl ?_
  rw [hyl, hkk]
  refine L.sliceR rfl Try.underlying22 sz3 rfl Bd.no (Bd.at (x := kk) rfl (by first | rfl | omega | (simp; done))) qM qI qI qI (fun a53 => ?_)
  refine L.assign rfl rfl ?_
  refine L.nil ?_
  refine T.derive (φ := rsl 1 a53 (kk - 0) (wc - 0) ((((srtG (nmF s) (allF ow F)).map e3).drop 0).take (kk - 0))) (ψ := rsl 1 a53 (kk - 0) (wc - 0) (((srtG (nmF s) (allF ow F)).take kk).map e3)) qM (fun z h => by simpa using h) ?_
  refine T.thenN ?_
  refine T.seq ?_
  refine T.region ?_
  refine L.assign rfl rfl ?_
  refine L.nil ?_
  refine T.thenN ?_
  refine T.seq ?_
  refine T.seq ?_
  refine T.region ?_
  refine L.assign rfl rfl ?_
  refine L.nil ?_
  refine T.thenN ?_
  refine T.block ?_
  refine T.loop (fun K' D' M' μ => ∃ (j : Nat), (j ≤ 72) ∧ K' = [(14, .int .i64 ((j : Int) - 2)), (13, .int .i64 (kcnt ow F j : Int))] ∧ D' = [] ∧ M' = [tblA b ow F] ∧ μ = 72 - j) (.cons (t := 3) rfl <| .cons (t := 9) rfl <| .cons (t := 10) rfl <| .cons (t := 11) rfl <| .cons (t := 12) rfl <| SubK.nil _) (⟨0, Nat.zero_le _, rfl, rfl, rfl, rfl⟩) (.cons (t := 14) rfl <| .cons (t := 13) rfl <| SubK.nil _) qD qS ?_
  rintro K1 D1 M1 m1 ⟨j, hj, rfl, rfl, rfl, rfl⟩
  refine T.norm3 qA qA qA ?_
  have hkl := kcnt_le (o := ow) (F := F) (j := j)
  have hks := kcnt_s (o := ow) (F := F) (j := j)
  refine T.seq ?_
  refine T.seq ?_
  refine T.region ?_
  refine L.move rfl rfl ?_
  refine L.ltI rfl rfl rfl ?_
  refine L.nil ?_
  refine T.thenN ?_
  refine T.cond rfl (fun h55 => ?_) (fun h55 => ?_)
  · try simp only [decide_eq_true_eq, decide_eq_false_iff_not, Bool.not_eq_true', Bool.not_eq_false', Bool.and_eq_true, Bool.or_eq_true] at h55
    refine T.skip ?_
    refine T.thenN ?_
    refine T.seq ?_
    refine T.block ?_
    refine T.seq ?_
    refine T.region ?_
    refine L.move rfl rfl ?_
    refine L.move rfl rfl ?_
    refine L.call rfl (evs.cons rfl <| evs.cons rfl <| evs.nil) qD qS (knows_spec) ?_
    rintro _ _ _ ⟨rfl, rfl, rfl⟩
    refine L.norm qA qA ?_
    refine L.nil ?_
    refine T.thenN ?_
    refine T.cond rfl (fun h60 => ?_) (fun h60 => ?_)
    · try simp only [decide_eq_true_eq, decide_eq_false_iff_not, Bool.not_eq_true', Bool.not_eq_false', Bool.and_eq_true, Bool.or_eq_true] at h60
      refine T.region ?_
      refine L.move rfl rfl ?_
      refine L.addN rfl rfl rfl (by omega) ?_
      refine L.assign rfl rfl ?_
      refine L.nil ?_
      refine T.blkN ?_
      refine T.thenN ?_
      refine T.region ?_
      refine L.move rfl rfl ?_
      refine L.addN rfl rfl rfl (by omega) ?_
      refine L.assign rfl rfl ?_
      refine L.nil ?_
      refine T.thenN ?_
      rw [if_pos h60] at hks
      rw [show (j : Int) - 2 + 1 = ((j + 1 : Nat) : Int) - 2 from by omega, show (kcnt ow F j : Int) + 1 = ((kcnt ow F (j + 1) : Nat) : Int) from by omega]
      exact T.back ⟨j + 1, by omega, rfl, rfl, rfl, rfl⟩ qI (.cons (t := 14) rfl <| .cons (t := 13) rfl <| SubK.nil _) (.cons (t := 3) rfl <| .cons (t := 9) rfl <| .cons (t := 10) rfl <| .cons (t := 11) rfl <| .cons (t := 12) rfl <| SubK.nil _) qD qD qF
    · try simp only [decide_eq_true_eq, decide_eq_false_iff_not, Bool.not_eq_true', Bool.not_eq_false', Bool.and_eq_true, Bool.or_eq_true] at h60
      refine T.skip ?_
      refine T.blkN ?_
      refine T.thenN ?_
      refine T.region ?_
      refine L.move rfl rfl ?_
      refine L.addN rfl rfl rfl (by omega) ?_
      refine L.assign rfl rfl ?_
      refine L.nil ?_
      refine T.thenN ?_
      rw [if_neg (by rw [h60]; decide)] at hks
      rw [show (j : Int) - 2 + 1 = ((j + 1 : Nat) : Int) - 2 from by omega, show (kcnt ow F j : Int) = ((kcnt ow F (j + 1) : Nat) : Int) from by omega]
      exact T.back ⟨j + 1, by omega, rfl, rfl, rfl, rfl⟩ qI (.cons (t := 14) rfl <| .cons (t := 13) rfl <| SubK.nil _) (.cons (t := 3) rfl <| .cons (t := 9) rfl <| .cons (t := 10) rfl <| .cons (t := 11) rfl <| .cons (t := 12) rfl <| SubK.nil _) qD qD qF
  · try simp only [decide_eq_true_eq, decide_eq_false_iff_not, Bool.not_eq_true', Bool.not_eq_false', Bool.and_eq_true, Bool.or_eq_true] at h55
    obtain rfl : j = 72 := by omega
    rw [kcnt_end hok]
    refine T.exit ?_
    refine T.thenX ?_
    refine T.thenX ?_
    refine T.blkX ?_
    refine T.thenN ?_
    refine T.seq ?_
    refine T.region ?_
    refine L.move rfl rfl ?_
    refine L.loadA rfl ag34 rfl qN ?_
    refine L.move rfl rfl ?_
    refine L.call rfl (evs.cons rfl <| evs.cons rfl <| evs.cons rfl <| evs.nil) qD qS (near_spec (g := nmF s) hnl hkk) ?_
    rintro _ _ _ ⟨na, nc, rfl, rfl, rfl⟩
    refine L.norm qA qA ?_
    refine L.move rfl rfl ?_
    refine L.callF rfl (evs.cons rfl <| evs.cons rfl <| evs.nil) qD qS (same_spec (xs := (srtG (nmF s) (allF ow F)).take kk) (ys := (srtG (nmF s) (allF ow F)).take kk) (by omega) (by omega)) (by rintro u D1 M1 ⟨rfl, rfl, rfl⟩; exact ⟨rfl, _, qA, qF⟩) ?_
    refine L.move rfl rfl ?_
    refine L.known (t := 69) rfl (show _ = Value.bool true from congrArg Value.bool (decide_eq_true rfl)) ?_
    refine L.guardT (dj := 69) rfl rfl rfl ?_
    refine L.move rfl rfl ?_
    refine L.guardT (dj := 69) rfl rfl rfl ?_
    refine L.loadA rfl ag47 rfl qN ?_
    refine L.guardT (dj := 69) rfl rfl rfl ?_
    refine L.call rfl (evs.cons rfl <| evs.nil) qD qS (rall_spec (tb := tb) (by omega)) ?_
    rintro _ _ _ ⟨ra, rc, rfl, rfl, rfl⟩
    refine L.norm qA qA ?_
    rw [hra]
    refine L.ownRsl qP ?_
    refine L.guardT (dj := 69) rfl rfl rfl ?_
    refine L.lenSl rfl Try.underlying22 rfl ?_
    refine L.guardT (dj := 69) rfl rfl rfl ?_
    refine L.eqI rfl rfl rfl ?_
    refine L.pickT rfl rfl rfl ?_
    refine L.assign rfl rfl ?_
    refine L.nil ?_
    refine T.thenN ?_
    refine T.ret ?_
    exact T.ret1 rfl rfl ⟨congrArg Value.bool (decide_eq_true rfl), rfl, rfl⟩ qD qF
end Cv
